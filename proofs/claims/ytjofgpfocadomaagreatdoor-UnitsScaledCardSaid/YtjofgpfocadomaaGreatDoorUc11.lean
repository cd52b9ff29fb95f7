/- The reference's Top: the expressions that are no argument (printed by gen_vb.py). -/
import Derived.Test.YtjofgpfocadomaaGreatDoorUc0
import Derived.Test.YtjofgpfocadomaaGreatDoorUc4
import Derived.Test.YtjofgpfocadomaaGreatDoorUc7
import Derived.Test.YtjofgpfocadomaaGreatDoorUc9
set_option maxRecDepth 100000
set_option maxHeartbeats 32000000
set_option linter.unusedSimpArgs false
namespace Go.Proofs.YtjofgpfocadomaaGreatDoor
open Go.RowKit
def Gp(B:Nat)(w:World)(v:Value)(rows:List LV):Prop:=w.ownsRow B 26 6 v rows.length rows.flatten
theorem T3(B:Nat)(w:World):Gp B w (.slice none 0 0) []:=⟨rfl,.inl ⟨rfl,rfl⟩⟩
theorem Gp.up{B:Nat}{w w':World}{v:Value}{l:List LV}(h:Gp B w v l)(hb:Below w.heap.size w w'):Gp B w' v l:=by
 obtain ⟨h1,h2⟩:=h
 refine ⟨h1,h2.imp id ?_⟩
 rintro ⟨g,cap,a,h3,d,b,c⟩
 exact ⟨g,cap,a,h3,d,(hb.block g (yd.1 b).1).trans b,c⟩
theorem E7{B:Nat}{c w w':World}{v:Value}{l:List LV}(f:Below B c w)(i:B<=w.heap.size)(d:Gp B w v l)(a:w.grownBy w' v.ownBlock):Below B c w':=by
 refine f.trans ⟨a.os,a.tape,a.output,a.size,fun b hb=>a.block b (by omega) (fun e=>?_)⟩
 rcases d.2 with ⟨rfl,_⟩|⟨g,cap,h,rfl,j,_⟩
 ·cases e
 ·simp only[Value.ownBlock,yZ] at e
  omega
theorem Bb{ops:Array Oper}{rest:List Oper}{o:Oper}{a:Act}{Q:QT}{W:World}(B:Nat)(A:o.guard=none)(s x:Operand)(H:o.op=.call {callee:=.builtin .append,args:=#[s,x],argTypes:=#[24,24]})
 (v:Value)(rows:List LV)(hs:a.eval s=v)(b:Gp B W v rows)(g m c:Nat)(f:List LV)(row:Array Value)(z:a.eval x=.slice (some ⟨g,0,none⟩) m c)(O:m=f.length)(M:W.heap[g]?=some (.cells row 26 (0,0)))(d:row.toList=f.flatten)(t:∀u∈row.toList,u.oneCell'=true)(E:row.toList.length=f.length*6)
 (J:rows.length+f.length<=1000000000)(l:B<=W.heap.size)
 (h:∀(L:Option Addr) (n c:Nat) w',Gp B w' (.slice L n c) (rows++f)->W.grownBy w' v.ownBlock->wpList Tryz.prog ops Q rest (a.put o.dst (.slice L n c)) w'):wpList Tryz.prog ops Q (o::rest) a W:=by
 subst O
 refine zB A fun K I=>?_
 have p:(Tryz.prog.info? 26).map (fun i=>(i.zero,i.size,i.bytes))=some (some (.agg #[iV 0,iV 0,iV 0,.string ⟨#[]⟩,iV 0,.slice none 0 0]),6,72):=by kernel_rfl
 obtain ⟨N,hi,C,q,G⟩:=info_parts p
 by_cases h0:f=[]
 ·subst h0
  have r:=EU qO hi W B o.type v rows.length _ (by have:=b;unfold Gp at this;rw[<-q] at this;exact this) (some (aV g 0)) c
  obtain ⟨va,F,w,rfl⟩:∃a n c,v=.slice a n c:=by
   rcases b.2 with ⟨rfl,P⟩|⟨g,cap,D,rfl,_⟩
   ·exact ⟨_,_,_,rfl⟩
   ·exact ⟨_,_,_,rfl⟩
  unfold Oper.wp
  simp only[yH] at z
  simp[execOp,H,resolve,invoke,builtin,hs,z,r,Result.andThen]
  exact I _ _ (h va F w W (by simpa using b) ⟨rfl,rfl,rfl,yf _,fun _ _ _=>rfl⟩)
 ·have k:∀j u,f.flatten[j]?=some u->W.cell? (((aV g 0):Addr).add j)=some u:=fun j u R=>by
   rw[zA,<-d] at*
   simp only[World.cell?,M]
   simpa using R
  refine wp_append_own W s x 24 H B 26 N _ 6 72 qO hi C q G rfl (by decide) v rows.length _ hs b (aV g 0) f.length c f.flatten z (by rw[<-d];exact E) k (by rw[<-d];exact t) (by unfold maxLen;omega) (by omega) l ?_
  intro v' w' e y _
  obtain ⟨va,F,w,rfl⟩:∃a n c,v'=.slice a n c:=by
   rcases e.2 with ⟨rfl,P⟩|⟨g,cap,D,rfl,_⟩
   ·exact ⟨_,_,_,rfl⟩
   ·exact ⟨_,_,_,rfl⟩
  exact I _ _ (h va F w w' (by unfold Gp;rw[yn,List.flatten_append];exact e) y)
def Ev(d:AE):List Ex:=[d.delay,d.cap,d.bank,d.siphon,d.evap0,d.evap1,d.seep0,d.seep1]
def GS(d:BG):List Ex:=[d.flow,d.frm,d.to]++d.turns.flatMap fun k=> [k.len]
def Ew(d:AZ):List Ex:=[d.flow,d.frm,d.to,d.every,d.len]
def QV(x:Ar):List Ex:=x.lets.flatMap fun d=> [d.value]
def Jb(x:Ar):List Ex:=QV x++[x.season,x.cap,x.start]
def JF(x:Ar):List Ex:=Jb x++x.crops.flatMap fun d=> [d.need]
def JG(x:Ar):List Ex:=JF x++x.reaches.flatMap Ev
def GW(x:Ar):List Ex:=JG x++x.farms.flatMap fun d=> [d.area]
def JH(x:Ar):List Ex:=GW x++x.rots.flatMap GS
def JI(x:Ar):List Ex:=JH x++x.rights.flatMap Ew
def F6(x:Ar):List Ex:=JI x++x.duties.flatMap fun d=> [d.due]
theorem DU{α β:Type}{l:List α}{f:α->List β}{i:Nat}(h:i < l.length):(l.take (i+1)).flatMap f=(l.take i).flatMap f++f l[i]:=by
 rw[yF h,zo];simp
theorem ES{α β:Type}{l:List α}{f:α->List β}{c i:Nat}(h:∀a∈l,(f a).length<=c):((l.take i).flatMap f).length<=l.length*c:=by
 have h1:=Bj (l:=l.take i) (f:=f) (c:=c) (fun a b=>h a (List.mem_of_mem_take b))
 have h2:(l.take i).length<=l.length:=by simp;omega
 exact yu h1 (xR _ h2)
structure Fw (x:Ar):Prop where
 lets:x.lets.length<=100
 crops:x.crops.length<=100
 reaches:x.reaches.length<=100
 farms:x.farms.length<=100
 rots:x.rots.length<=70
 rights:x.rights.length<=300
 duties:x.duties.length<=300
 turns:∀d∈x.rots,d.turns.length<=70
structure XA (x:Ar):Prop where
 t1:(QV x).length<=100
 t2:(Jb x).length<=103
 t3:(JF x).length<=203
 t4:(JG x).length<=1003
 t5:(GW x).length<=1103
 t6:(JH x).length<=6213
 t7:(JI x).length<=7713
 tE:(F6 x).length<=8013
theorem Fw.top{x:Ar}(h:Fw x):XA x:=by
 have g:(QV x).length<=x.lets.length*1:=Bj fun _ _=>by simp
 have f:(x.crops.flatMap fun d=> [d.need]).length<=x.crops.length*1:=Bj fun _ _=>by simp
 have o:(x.reaches.flatMap Ev).length<=x.reaches.length*8:=Bj fun _ _=>by simp[Ev]
 have q:(x.farms.flatMap fun d=> [d.area]).length<=x.farms.length*1:=Bj fun _ _=>by simp
 have e:(x.rots.flatMap GS).length<=x.rots.length*73:=Bj fun d hd=>by
  have h1:(d.turns.flatMap fun k:Cs=> [k.len]).length<=d.turns.length*1:=Bj fun _ _=>by simp
  have:=h.turns d hd
  simp only[GS,yn,yz,yH];omega
 have i:(x.rights.flatMap Ew).length<=x.rights.length*5:=Bj fun _ _=>by simp[Ew]
 have j:(x.duties.flatMap fun d=> [d.due]).length<=x.duties.length*1:=Bj fun _ _=>by simp
 have:=h.lets;have:=h.crops;have:=h.reaches;have:=h.farms;have:=h.rots;have:=h.rights;have:=h.duties
 have p:(Jb x).length=(QV x).length+3:=by unfold Jb;simp
 have b:(JF x).length=(Jb x).length+(x.crops.flatMap fun d=> [d.need]).length:=by unfold JF;rw[yn]
 have n:(JG x).length=(JF x).length+(x.reaches.flatMap Ev).length:=by unfold JG;rw[yn]
 have l:(GW x).length=(JG x).length+(x.farms.flatMap fun d=> [d.area]).length:=by unfold GW;rw[yn]
 have a:(JH x).length=(GW x).length+(x.rots.flatMap GS).length:=by unfold JH;rw[yn]
 have c:(JI x).length=(JH x).length+(x.rights.flatMap Ew).length:=by unfold JI;rw[yn]
 have m:(F6 x).length=(JI x).length+(x.duties.flatMap fun d=> [d.due]).length:=by unfold F6;rw[yn]
 constructor<;>omega
structure Km (B:Nat) (N:Nat->Prop) (w0:World) (es:List Ex) (wr:World) (v:Value):Prop where
 below:Below B w0 wr
 size:B<=wr.heap.size
 own:∃rows,Gp B wr v rows∧AD (fun cs e=>AI N w0 e cs) rows es
theorem AD.len{α β:Type}{R:α->β->Prop}{l:List α}{m:List β}(h:AD R l m):l.length=m.length:=h.length
def UH(N:NP)(w:World)(b o:Nat)(e:Ex):Prop:=N b∧∃c,w.rangeAt b o c∧AI N w e c
theorem KG{N:NP}{w:World}{b o:Nat}{p c q:LV}{e:Ex}{a:Nat}(hN:N b)(hr:w.rangeAt b o (p++(c++q)))(d:p.length=a)(f:AI N w e c):UH N w b (o+a) e:=by
 have:=D7 hr
 rw[d] at this
 exact ⟨hN,c,this,f⟩
structure XB (N:Nat->Prop) (w:World) (L:Bt) (x:Ar):Prop where
 lets:∀i (hi:i < x.lets.length),∃b o,L.lets.a=some ⟨b,o,none⟩∧UH N w b (o+i*7+1) x.lets[i].value
 crops:∀i (hi:i < x.crops.length),∃b o,L.crops.a=some ⟨b,o,none⟩∧UH N w b (o+i*7+1) x.crops[i].need
 farms:∀i (hi:i < x.farms.length),∃b o,L.farms.a=some ⟨b,o,none⟩∧UH N w b (o+i*12+4) x.farms[i].area
 duties:∀i (hi:i < x.duties.length),∃b o,L.duties.a=some ⟨b,o,none⟩∧UH N w b (o+i*11+5) x.duties[i].due
theorem BH.tops{N:NP}{w:World}{L:Bt}{cs:LV}{x:Ar}(h:BH N w L cs x):XB N w L x:=by
 refine ⟨fun i hi=>?_,fun i hi=>?_,fun i hi=>?_,fun i hi=>?_⟩
 ·obtain ⟨b,o,c,g1,e,f,d,_,c1,rfl,a⟩:=h.lets.2.2 i hi
  exact ⟨b,o,g1,KG (p:=[.string (x.lets[i]).name]) (q:=[]) e (by simpa using d) rfl a⟩
 ·obtain ⟨b,o,c,g1,e,f,d,_,c1,rfl,a⟩:=h.crops.2.2 i hi
  exact ⟨b,o,g1,KG (p:=[.string (x.crops[i]).name]) (q:=[]) e (by simpa using d) rfl a⟩
 ·obtain ⟨b,o,c,g1,e,f,d,_,_,_,c1,rfl,a⟩:=h.farms.2.2 i hi
  exact ⟨b,o,g1,KG (p:=.string (x.farms[i]).name::(AU (x.farms[i]).on++[.bool (x.farms[i]).river])) (q:=AU (x.farms[i]).crop) e (by simpa using d) rfl a⟩
 ·obtain ⟨b,o,c,g1,e,f,d,_,_,_,c1,rfl,a⟩:=h.duties.2.2 i hi
  exact ⟨b,o,g1,KG (p:=.string (x.duties[i]).name::(AU (x.duties[i]).farm++AU (x.duties[i]).reach)) (q:=[]) e (by simpa using d) rfl a⟩
def Ed(N:NP)(w W:World)(b o:Nat)(e:Ex):Prop:=∃c,W.rangeAt b o c∧AI N w e c
theorem Cc{N:NP}{w W:World}{b o:Nat}{p c q:LV}{e:Ex}(a:Nat)(hr:W.rangeAt b o (p++(c++q)))(d:p.length=a)(f:AI N w e c):Ed N w W b (o+a) e:=by
 have:=D7 hr
 rw[d] at this
 exact ⟨c,this,f⟩
theorem Po{N:NP}{w W:World}{b:Nat}{R:LV}{d:AE}(hr:W.rangeAt b 0 R)(v:Fa N w R d):Ed N w W b 3 d.delay∧Ed N w W b 9 d.cap∧Ed N w W b 15 d.bank∧Ed N w W b 21 d.siphon∧Ed N w W b 27 d.evap0∧Ed N w W b 33 d.evap1∧Ed N w W b 39 d.seep0∧Ed N w W b 45 d.seep1:=by
 obtain ⟨_,_,c0,c1,c2,c3,c4,c5,c6,c7,rfl,s,j,r,m,t,o,l,x⟩:=v
 have a:=s.len;have c:=j.len;have f:=r.len;have g:=m.len;have i:=t.len;have n:=o.len;have u:=l.len
 have z:∀ {k:Nat} {e:Ex},Ed N w W b (0+k) e->Ed N w W b k e:=fun h=>by rwa [yy] at h
 refine ⟨z ?_,z ?_,z ?_,z ?_,z ?_,z ?_,z ?_,z ?_⟩
 ·exact Cc (p:=.string d.name::AU d.frm) _ (by simpa using hr) rfl s
 ·exact Cc (p:=.string d.name::(AU d.frm++c0)) _ (by simpa using hr) (by simp[Ay,a]) j
 ·exact Cc (p:=.string d.name::(AU d.frm++(c0++c1))) _ (by simpa using hr) (by simp[Ay,a,c]) r
 ·exact Cc (p:=.string d.name::(AU d.frm++(c0++(c1++c2)))) _ (by simpa using hr) (by simp[Ay,a,c,f]) m
 ·exact Cc (p:=.string d.name::(AU d.frm++(c0++(c1++(c2++c3))))) _ (by simpa using hr) (by simp[Ay,a,c,f,g]) t
 ·exact Cc (p:=.string d.name::(AU d.frm++(c0++(c1++(c2++(c3++c4)))))) _ (by simpa using hr) (by simp[Ay,a,c,f,g,i]) o
 ·exact Cc (p:=.string d.name::(AU d.frm++(c0++(c1++(c2++(c3++(c4++c5))))))) _ (by simpa using hr) (by simp[Ay,a,c,f,g,i,n]) l
 ·exact Cc (p:=.string d.name::(AU d.frm++(c0++(c1++(c2++(c3++(c4++(c5++c6)))))))) (q:=[]) _ (by simpa using hr) (by simp[Ay,a,c,f,g,i,n,u]) x
theorem Pq{N:NP}{w W:World}{b:Nat}{R:LV}{d:AZ}(hr:W.rangeAt b 0 R)(m:Fb N w R d):Ed N w W b 7 d.flow∧Ed N w W b 13 d.frm∧Ed N w W b 19 d.to∧Ed N w W b 25 d.every∧Ed N w W b 31 d.len:=by
 obtain ⟨_,_,_,c0,c1,c2,c3,c4,rfl,l,f,j,g,n⟩:=m
 have a:=l.len;have c:=f.len;have i:=j.len;have o:=g.len
 have z:∀ {k:Nat} {e:Ex},Ed N w W b (0+k) e->Ed N w W b k e:=fun h=>by rwa [yy] at h
 refine ⟨z ?_,z ?_,z ?_,z ?_,z ?_⟩
 ·exact Cc (p:=iV d.kind::.string d.name::(AU d.farm++(AU d.reach++[iV d.rank]))) _ (by simpa using hr) rfl l
 ·exact Cc (p:=iV d.kind::.string d.name::(AU d.farm++(AU d.reach++(iV d.rank::c0)))) _ (by simpa using hr) (by simp[Ay,a]) f
 ·exact Cc (p:=iV d.kind::.string d.name::(AU d.farm++(AU d.reach++(iV d.rank::(c0++c1))))) _ (by simpa using hr) (by simp[Ay,a,c]) j
 ·exact Cc (p:=iV d.kind::.string d.name::(AU d.farm++(AU d.reach++(iV d.rank::(c0++(c1++c2)))))) _ (by simpa using hr) (by simp[Ay,a,c,i]) g
 ·exact Cc (p:=iV d.kind::.string d.name::(AU d.farm++(AU d.reach++(iV d.rank::(c0++(c1++(c2++c3))))))) (q:=[]) _ (by simpa using hr) (by simp[Ay,a,c,i,o]) n
theorem T4{N:NP}{w W:World}{b:Nat}{R:LV}{h:Aw}{d:BG}(hr:W.rangeAt b 0 R)(m:H8 N w h R d):Ed N w W b 4 d.flow∧Ed N w W b 10 d.frm∧Ed N w W b 16 d.to∧R[22]?=some h.v∧BF N w 8 (FA N w) h d.turns:=by
 obtain ⟨_,_,c0,c1,c2,rfl,l,g,j,n⟩:=m
 have c:=l.len;have f:=g.len;have i:=j.len
 have z:∀ {k:Nat} {e:Ex},Ed N w W b (0+k) e->Ed N w W b k e:=fun h=>by rwa [yy] at h
 have a:(Value.string d.name::(AU d.on++(iV d.rank::(c0++(c1++(c2++[h.v]))))))[22]?=some h.v:=by
  have e:(Value.string d.name::(AU d.on++(iV d.rank::(c0++(c1++(c2++[h.v]))))))=(Value.string d.name::(AU d.on++(iV d.rank::(c0++(c1++c2)))))++[h.v]:=by simp
  rw[e,yN (by simp[Ay,c,f,i])]
  simp[Ay,c,f,i]
 refine ⟨z ?_,z ?_,z ?_,a,n⟩
 ·exact Cc (p:=.string d.name::(AU d.on++[iV d.rank])) _ (by simpa using hr) rfl l
 ·exact Cc (p:=.string d.name::(AU d.on++(iV d.rank::c0))) _ (by simpa using hr) (by simp[Ay,c]) g
 ·exact Cc (p:=.string d.name::(AU d.on++(iV d.rank::(c0++c1)))) _ (by simpa using hr) (by simp[Ay,c,f]) j
theorem QW{N:NP}{w W:World}{L:Bt}{b:Nat}{R:LV}{x:Ar}(hr:W.rangeAt b 0 R)(f:BH N w L R x):Ed N w W b 1 x.season∧Ed N w W b 7 x.cap∧Ed N w W b 13 x.start:=by
 obtain ⟨c0,c1,c2,rfl,d,a,g⟩:=f.cells
 have c:=d.len;have i:=a.len
 have z:∀ {k:Nat} {e:Ex},Ed N w W b (0+k) e->Ed N w W b k e:=fun h=>by rwa [yy] at h
 refine ⟨z ?_,z ?_,z ?_⟩
 ·exact Cc (p:=[.string x.name]) _ (by simpa using hr) rfl d
 ·exact Cc (p:=.string x.name::c0) _ (by simpa using hr) (by simp[c]) a
 ·exact Cc (p:=.string x.name::(c0++c1)) _ (by simpa using hr) (by simp[c,i]) g
theorem UI{B:Nat}{w:World}{v:Value}{rows:List LV}(h:Gp B w v rows){g:Nat}{c:Array Value}{ty:TypeId}(b:w.heap[g]?=some (.cells c ty (0,0)))(f:ty≠26):v.ownBlock≠some g:=fun e=>by
 rcases h.2 with ⟨rfl,_⟩|⟨k,cap,d,rfl,_,a,_⟩
 ·cases e
 ·cases e
  rw[b] at a
  cases a
  exact f rfl
theorem T5{B b:Nat}{w:World}{v:Value}{l:List LV}(h:Gp B w v l)(hb:b<=B):Gp b w v l:=by
 obtain ⟨h1,h2⟩:=h
 refine ⟨h1,h2.imp id ?_⟩
 rintro ⟨g,cap,a,e,d,c⟩
 exact ⟨g,cap,a,e,by omega,c⟩
structure Xl (L:Bt) (x:Ar):Prop where
 lets:L.lets.n=x.lets.length
 crops:L.crops.n=x.crops.length
 reaches:L.reaches.n=x.reaches.length
 farms:L.farms.n=x.farms.length
 rots:L.rots.n=x.rots.length
 rights:L.rights.n=x.rights.length
 duties:L.duties.n=x.duties.length
theorem VJ{N:NP}{w:World}{L:Bt}{cs:LV}{x:Ar}(h:BH N w L cs x)(hN:∀b,N b->b < w.heap.size)(cl:Fw x):
  Calls Tryz.prog 39 #[.agg cs.toArray] w fun e w'=>∃v,e=.returned v∧Km w.heap.size N w (F6 x) w' v:=by
 have ae:Hid (Xl L x):=yb ⟨h.lets.1,h.crops.1,h.reaches.1,h.farms.1,h.rots.1,h.rights.1,h.duties.1⟩
 have bd:=yb h.ok
 have b4:=yb cl.top
 have aw:=yb cl
 have b9:=yb h.at
 obtain ⟨w0,bn⟩:∃w0,w0=w.alloc (.cells cs.toArray 35):=⟨_,rfl⟩
 have ci:Below w.heap.size w w0:=by rw[bn];exact (yg _ _).alloc (yf _) _
 have cu:w0.heap.size=w.heap.size+1:=by rw[bn];simp
 have cg:w0.heap[w.heap.size]?=some (.cells cs.toArray 35 (0,0)):=by rw[bn];exact World.alloc_heap_new _ _
 have h0:BH N w0 L cs x:=h.same (fun _ h=>h) (fun b hb=>ci.block b (hN b hb))
 have bw:=yb h0.tops
 have bv:=yb h0
 have d2:=yb ci;have db:=yb cu;have di:=yb hN
 have bb:Hid (∀wr,Below (w.heap.size+1) w0 wr->∀q v,cs[q]?=some v->wr.cell? (aV w.heap.size q)=some v):=yb (fun wr cf q v hq=>by
  have e:=cf.block w.heap.size (by omega)
  simp only[World.cell?,e,cg]
  simpa using hq)
 have az:Hid (∀wr,Below (w.heap.size+1) w0 wr->∀b,N b->wr.heap[b]?=w0.heap[b]?):=yb (fun wr cf b hb=>cf.block b (by have:=hN b hb;omega))
 have d4:Hid (w0.rangeAt w.heap.size 0 cs):=yb (by
  have:=zp cg 0 cs.length
  simpa using this)
 have X:Hid (Km (w.heap.size+1) N w0 ([]++(x.lets.take 0).flatMap (fun d=> [d.value])) w0 (.slice none 0 0)):=yb ⟨yg _ _,by omega,[],T3 _ _,trivial⟩
 have cz:=yb bn
 clear ci cu cg h0 hN cl bn
 obtain ⟨ks,ch⟩:∃ks,ks=cs:=⟨_,rfl⟩
 rw[<-ch] at b9 bv bb d4
 have HK:=yb ch
 obtain ⟨c0,c1,c2,rfl,g0,g1,g2⟩:=h.cells
 obtain ⟨a0,p0,rfl,e0⟩:=g0.cells
 obtain ⟨a1,p1,rfl,e1⟩:=g1.cells
 obtain ⟨a2,p2,rfl,e2⟩:=g2.cells
 clear h g0 g1 g2 e0 e1 e2 ch
 unfold Aw.v at*
 simp only[yK,yQ] at cz HK ⊢
 go_enter Tryz.func39,Tryz.ntmps39
 go_upto_region 2 with fail
 rw[<-cz.o]
 go_wp2
 go_loopw [3,4] (fun v3 iv wr=>∃i:Nat,i<=L.lets.n∧iv=iV i∧Hid (Km (w.heap.size+1) N w0 (([]:List Ex)++(x.lets.take i).flatMap (fun d=> [d.value])) wr v3)) (fun _ iv _=>L.lets.n - (intOf iv).toNat)
 case atStart=>exact ⟨0,yI _,rfl,X⟩
 case round=>
  clear X
  obtain ⟨i,hi,rfl,H⟩:=hrel
  have hf:wr.cell? (aV w.heap.size 19)=some (.slice L.lets.a L.lets.n L.lets.c):=bb.o wr H.o.below 19 _ b9.o.lets
  have ar:L.lets.n<=140737488355328:=bd.o.lets.1
  by_cases ag:i < L.lets.n
  ·have U:i < x.lets.length:=by rw[<-ae.o.lets];exact ag
   have Z:(i:Int) < (L.lets.n:Int):=by omega
   obtain ⟨b,o,he,V,c,Y,a8⟩:=bw.o.lets i U
   rw[he] at hf
   have t:Hid (([]:List Ex)++(x.lets.take (i+1)).flatMap (fun d=> [d.value])=(([]:List Ex)++(x.lets.take i).flatMap (fun d=> [d.value]))++[x.lets[i].value]):=yb (by rw[DU U,yG])
   have af:(([]:List Ex)++(x.lets.take i).flatMap (fun d=> [d.value])).length<=20000:=by
    have h1:=ES (l:=x.lets) (f:=(fun d=> [d.value])) (c:=1) (i:=i) (fun _ _=>by simp)
    have h2:=b4.o.t1;have h3:=aw.o.lets
    rw[yn]
    simp only[yH]
    omega
   generalize x.lets[i].value=E at a8 t
   have bh:=yb a8
   obtain ⟨a',p',rfl,_⟩:=a8.cells
   have be:=yb (A0 Y ((az.o wr H.o.below) b V))
   obtain ⟨rows,G,A⟩:=H.o.own
   have O:=yb G;have M:=yb A
   have K:Hid (rows.length+1<=1000000000):=yb (by rw[A.length];omega)
   clear Y a8 he G A af V
   have F:Hid (Below wr.heap.size wr (wr.alloc (.cells #[iV E.op,iV E.n,iV E.u,.string E.rn,iV E.ri,.slice a' E.args.length p'] 26))):=yb ((yg _ _).alloc (yf _) _)
   have I:=yb (O.o.up F.o)
   have aa:=yb (H.o.below.trans (F.o.mono H.o.size))
   have J:Hid ((wr.alloc (.cells #[iV E.op,iV E.n,iV E.u,.string E.rn,iV E.ri,.slice a' E.args.length p'] 26)).heap[wr.heap.size]?=some (.cells #[iV E.op,iV E.n,iV E.u,.string E.rn,iV E.ri,.slice a' E.args.length p'] 26 (0,0))):=yb (by
    have h:=World.alloc_heap_new wr (.cells #[iV E.op,iV E.n,iV E.u,.string E.rn,iV E.ri,.slice a' E.args.length p'] 26)
    exact h)
   have r:Hid ((w.heap.size+1)<=(wr.alloc (.cells #[iV E.op,iV E.n,iV E.u,.string E.rn,iV E.ri,.slice a' E.args.length p'] 26)).heap.size):=yb (yu H.o.size F.o.size)
   go_wp2_with (first|(refine yj rfl 26 _ rfl b (o+i*7+1) rfl [iV E.op,iV E.n,iV E.u,.string E.rn,iV E.ri,.slice a' E.args.length p'] _ be.o qP rfl (by kernel_rfl) ?_)|(at_builtin;refine Bb (w.heap.size+1) rfl _ _ rfl u3 rows rfl I.o (wr.heap.size) 1 1 [[iV E.op,iV E.n,iV E.u,.string E.rn,iV E.ri,.slice a' E.args.length p']] #[iV E.op,iV E.n,iV E.u,.string E.rn,iV E.ri,.slice a' E.args.length p'] rfl rfl J.o rfl (by simp[Value.oneCell']) rfl K.o r.o ?_;intro au n5 c5 w5 y C;have ac:=yb y;have ab:=yb (E7 aa.o r.o I.o C);have ad:Hid ((w.heap.size+1)<=w5.heap.size):=yb (yu r.o C.size);have aq:=yb C;clear y C))
   exact ⟨⟨i+1,by omega,by push_cast;rfl,yb ⟨ab.o,ad.o,_,ac.o,by rw[t.o];exact M.o.append ⟨bh.o,trivial⟩⟩⟩,by simp[intOf];omega⟩
  ·obtain rfl:i=L.lets.n:=by omega
   have Z:decide ((L.lets.n:Int) < (L.lets.n:Int))=false:=by simp
   have P:Hid (Km (w.heap.size+1) N w0 (([]:List Ex)++x.lets.flatMap (fun d=> [d.value])) wr u3):=yb (by
    have h:=H.o
    rw[ae.o.lets,yS] at h
    exact h)
   obtain ⟨⟨C0,r0,k0⟩,⟨C1,r1,k1⟩,⟨C2,r2,k2⟩⟩:=QW (W:=wr) (A0 d4.o (P.o.below.block _ (xW _))) bv.o
   have bx:Hid (Jb x=QV x++[x.season,x.cap,x.start]):=yb rfl
   generalize x.season=g at k0 bx
   generalize x.cap=m at k1 bx
   generalize x.start=j at k2 bx
   have ai:=yb k0;have ap:=yb k1;have ao:=yb k2
   obtain ⟨a0,p0,rfl,_⟩:=k0.cells
   obtain ⟨a1,p1,rfl,_⟩:=k1.cells
   obtain ⟨a2,p2,rfl,_⟩:=k2.cells
   have aj:=yb r0;have an:=yb r1;have al:=yb r2
   obtain ⟨rows,G,A⟩:=P.o.own
   have O:=yb G;have M:=yb A
   have K:Hid (rows.length+3<=1000000000):=yb (by
    have h2:=b4.o.t1
    have h3:rows.length=(QV x).length:=A.length
    omega)
   clear r0 r1 r2 G A
   have F:Hid (Below wr.heap.size wr (wr.alloc (.cells #[iV g.op,iV g.n,iV g.u,.string g.rn,iV g.ri,.slice a0 g.args.length p0,iV m.op,iV m.n,iV m.u,.string m.rn,iV m.ri,.slice a1 m.args.length p1,iV j.op,iV j.n,iV j.u,.string j.rn,iV j.ri,.slice a2 j.args.length p2] 26))):=yb ((yg _ _).alloc (yf _) _)
   have I:=yb (O.o.up F.o)
   have aa:=yb (P.o.below.trans (F.o.mono P.o.size))
   have J:Hid ((wr.alloc (.cells #[iV g.op,iV g.n,iV g.u,.string g.rn,iV g.ri,.slice a0 g.args.length p0,iV m.op,iV m.n,iV m.u,.string m.rn,iV m.ri,.slice a1 m.args.length p1,iV j.op,iV j.n,iV j.u,.string j.rn,iV j.ri,.slice a2 j.args.length p2] 26)).heap[wr.heap.size]?=some (.cells #[iV g.op,iV g.n,iV g.u,.string g.rn,iV g.ri,.slice a0 g.args.length p0,iV m.op,iV m.n,iV m.u,.string m.rn,iV m.ri,.slice a1 m.args.length p1,iV j.op,iV j.n,iV j.u,.string j.rn,iV j.ri,.slice a2 j.args.length p2] 26 (0,0))):=yb (by
    have h:=World.alloc_heap_new wr (.cells #[iV g.op,iV g.n,iV g.u,.string g.rn,iV g.ri,.slice a0 g.args.length p0,iV m.op,iV m.n,iV m.u,.string m.rn,iV m.ri,.slice a1 m.args.length p1,iV j.op,iV j.n,iV j.u,.string j.rn,iV j.ri,.slice a2 j.args.length p2] 26)
    exact h)
   have r:Hid ((w.heap.size+1)<=(wr.alloc (.cells #[iV g.op,iV g.n,iV g.u,.string g.rn,iV g.ri,.slice a0 g.args.length p0,iV m.op,iV m.n,iV m.u,.string m.rn,iV m.ri,.slice a1 m.args.length p1,iV j.op,iV j.n,iV j.u,.string j.rn,iV j.ri,.slice a2 j.args.length p2] 26)).heap.size):=yb (yu P.o.size F.o.size)
   go_wp2_with (first|(refine yj rfl 26 _ rfl w.heap.size (1) rfl [iV g.op,iV g.n,iV g.u,.string g.rn,iV g.ri,.slice a0 g.args.length p0] _ aj.o qP rfl (by kernel_rfl) ?_)|(refine yj rfl 26 _ rfl w.heap.size (7) rfl [iV m.op,iV m.n,iV m.u,.string m.rn,iV m.ri,.slice a1 m.args.length p1] _ an.o qP rfl (by kernel_rfl) ?_)|(refine yj rfl 26 _ rfl w.heap.size (13) rfl [iV j.op,iV j.n,iV j.u,.string j.rn,iV j.ri,.slice a2 j.args.length p2] _ al.o qP rfl (by kernel_rfl) ?_)|(at_builtin;refine Bb (w.heap.size+1) rfl _ _ rfl u3 rows rfl I.o (wr.heap.size) 3 3 [[iV g.op,iV g.n,iV g.u,.string g.rn,iV g.ri,.slice a0 g.args.length p0],[iV m.op,iV m.n,iV m.u,.string m.rn,iV m.ri,.slice a1 m.args.length p1],[iV j.op,iV j.n,iV j.u,.string j.rn,iV j.ri,.slice a2 j.args.length p2]] #[iV g.op,iV g.n,iV g.u,.string g.rn,iV g.ri,.slice a0 g.args.length p0,iV m.op,iV m.n,iV m.u,.string m.rn,iV m.ri,.slice a1 m.args.length p1,iV j.op,iV j.n,iV j.u,.string j.rn,iV j.ri,.slice a2 j.args.length p2] rfl rfl J.o rfl (by simp[Value.oneCell']) rfl K.o r.o ?_;intro au n5 c5 w5 y C;have ac:=yb y;have ab:=yb (E7 aa.o r.o I.o C);have ad:Hid ((w.heap.size+1)<=w5.heap.size):=yb (yu r.o C.size);have aq:=yb C;clear y C))
   have X:Hid (Km (w.heap.size+1) N w0 (Jb x++(x.crops.take 0).flatMap (fun d=> [d.need])) w5 (.slice au n5 c5)):=yb ⟨ab.o,ad.o,_,ac.o,by
    rw[zY,zx,yU,bx.o]
    exact M.o.append ⟨ai.o,ap.o,ao.o,trivial⟩⟩
   clear hf Z H P ac ab ad aq M O K J r aa I F
   go_loopw [3,5] (fun v3 iv wr=>∃i:Nat,i<=L.crops.n∧iv=iV i∧Hid (Km (w.heap.size+1) N w0 (Jb x++(x.crops.take i).flatMap (fun d=> [d.need])) wr v3)) (fun _ iv _=>L.crops.n - (intOf iv).toNat)
   case atStart=>exact ⟨0,yI _,rfl,X⟩
   case round=>
    clear X
    obtain ⟨i,hi,rfl,H⟩:=hrel
    have hf:wr.cell? (aV w.heap.size 20)=some (.slice L.crops.a L.crops.n L.crops.c):=bb.o wr H.o.below 20 _ b9.o.crops
    have ar:L.crops.n<=140737488355328:=bd.o.crops.1
    by_cases ag:i < L.crops.n
    ·have U:i < x.crops.length:=by rw[<-ae.o.crops];exact ag
     have Z:(i:Int) < (L.crops.n:Int):=by omega
     obtain ⟨b,o,he,V,c,Y,a8⟩:=bw.o.crops i U
     rw[he] at hf
     have t:Hid (Jb x++(x.crops.take (i+1)).flatMap (fun d=> [d.need])=(Jb x++(x.crops.take i).flatMap (fun d=> [d.need]))++[x.crops[i].need]):=yb (by rw[DU U,yG])
     have af:(Jb x++(x.crops.take i).flatMap (fun d=> [d.need])).length<=20000:=by
      have h1:=ES (l:=x.crops) (f:=(fun d=> [d.need])) (c:=1) (i:=i) (fun _ _=>by simp)
      have h2:=b4.o.t2;have h3:=aw.o.crops
      rw[yn]
      skip
      omega
     generalize x.crops[i].need=E at a8 t
     have bh:=yb a8
     obtain ⟨a',p',rfl,_⟩:=a8.cells
     have be:=yb (A0 Y ((az.o wr H.o.below) b V))
     obtain ⟨rows,G,A⟩:=H.o.own
     have O:=yb G;have M:=yb A
     have K:Hid (rows.length+1<=1000000000):=yb (by rw[A.length];omega)
     clear Y a8 he G A af V
     have F:Hid (Below wr.heap.size wr (wr.alloc (.cells #[iV E.op,iV E.n,iV E.u,.string E.rn,iV E.ri,.slice a' E.args.length p'] 26))):=yb ((yg _ _).alloc (yf _) _)
     have I:=yb (O.o.up F.o)
     have aa:=yb (H.o.below.trans (F.o.mono H.o.size))
     have J:Hid ((wr.alloc (.cells #[iV E.op,iV E.n,iV E.u,.string E.rn,iV E.ri,.slice a' E.args.length p'] 26)).heap[wr.heap.size]?=some (.cells #[iV E.op,iV E.n,iV E.u,.string E.rn,iV E.ri,.slice a' E.args.length p'] 26 (0,0))):=yb (by
      have h:=World.alloc_heap_new wr (.cells #[iV E.op,iV E.n,iV E.u,.string E.rn,iV E.ri,.slice a' E.args.length p'] 26)
      exact h)
     have r:Hid ((w.heap.size+1)<=(wr.alloc (.cells #[iV E.op,iV E.n,iV E.u,.string E.rn,iV E.ri,.slice a' E.args.length p'] 26)).heap.size):=yb (yu H.o.size F.o.size)
     go_wp2_with (first|(refine yj rfl 26 _ rfl b (o+i*7+1) rfl [iV E.op,iV E.n,iV E.u,.string E.rn,iV E.ri,.slice a' E.args.length p'] _ be.o qP rfl (by kernel_rfl) ?_)|(at_builtin;refine Bb (w.heap.size+1) rfl _ _ rfl u3 rows rfl I.o (wr.heap.size) 1 1 [[iV E.op,iV E.n,iV E.u,.string E.rn,iV E.ri,.slice a' E.args.length p']] #[iV E.op,iV E.n,iV E.u,.string E.rn,iV E.ri,.slice a' E.args.length p'] rfl rfl J.o rfl (by simp[Value.oneCell']) rfl K.o r.o ?_;intro au n5 c5 w5 y C;have ac:=yb y;have ab:=yb (E7 aa.o r.o I.o C);have ad:Hid ((w.heap.size+1)<=w5.heap.size):=yb (yu r.o C.size);have aq:=yb C;clear y C))
     exact ⟨⟨i+1,by omega,by push_cast;rfl,yb ⟨ab.o,ad.o,_,ac.o,by rw[t.o];exact M.o.append ⟨bh.o,trivial⟩⟩⟩,by simp[intOf];omega⟩
    ·obtain rfl:i=L.crops.n:=by omega
     have Z:decide ((L.crops.n:Int) < (L.crops.n:Int))=false:=by simp
     have P:Hid (Km (w.heap.size+1) N w0 (Jb x++x.crops.flatMap (fun d=> [d.need])) wr u3):=yb (by
      have h:=H.o
      rw[ae.o.crops,yS] at h
      exact h)
     go_wp2
     obtain ⟨df,rfl⟩:∃z:World,z=wr:=⟨_,rfl⟩
     obtain ⟨d8,rfl⟩:∃z:Value,z=u3:=⟨_,rfl⟩
     have X:Hid (Km (w.heap.size+1) N w0 (JF x++(x.reaches.take 0).flatMap Ev) df d8):=yb (by
      rw[zY,zx,yU];exact P.o)
     clear hf Z H P
     go_loopw [3,6] (fun v3 iv wr=>∃i:Nat,i<=L.reaches.n∧iv=iV i∧Hid (Km (w.heap.size+1) N w0 (JF x++(x.reaches.take i).flatMap Ev) wr v3)) (fun _ iv _=>L.reaches.n - (intOf iv).toNat)
     case atStart=>exact ⟨0,yI _,rfl,X⟩
     case round=>
      clear X
      obtain ⟨i,hi,rfl,H⟩:=hrel
      have hf:wr.cell? (aV w.heap.size 21)=some (.slice L.reaches.a L.reaches.n L.reaches.c):=bb.o wr H.o.below 21 _ b9.o.reaches
      have ar:L.reaches.n<=140737488355328:=bd.o.reaches.1
      by_cases ag:i < L.reaches.n
      ·have U:i < x.reaches.length:=by rw[<-ae.o.reaches];exact ag
       have Z:(i:Int) < (L.reaches.n:Int):=by omega
       obtain ⟨b,o,R,he,V,am,Y,hv⟩:=bv.o.reaches.2.2 i U
       rw[he] at hf
       have t:Hid (JF x++(x.reaches.take (i+1)).flatMap Ev=(JF x++(x.reaches.take i).flatMap Ev)++[x.reaches[i].delay,x.reaches[i].cap,x.reaches[i].bank,x.reaches[i].siphon,x.reaches[i].evap0,x.reaches[i].evap1,x.reaches[i].seep0,x.reaches[i].seep1]):=yb (by rw[DU U,yG];rfl)
       have af:(JF x++(x.reaches.take i).flatMap Ev).length<=20000:=by
        have h1:=ES (l:=x.reaches) (f:=Ev) (c:=8) (i:=i) (fun _ _=>by simp[Ev])
        have h2:=b4.o.t3;have h3:=aw.o.reaches
        rw[yn]
        omega
       have b5:=yb (A0 Y ((az.o wr H.o.below) b V))
       have ak:=yb (zb (Js _ _ hv))
       have b7:Hid ((Tryz.prog.info? 66).map (·.size)=some R.length):=yb (by rw[am];kernel_rfl)
       have b0:Hid ((Tryz.prog.info? 66).map (·.size)=some R.toArray.size):=yb (by rw[yM];exact b7.o)
       have bk:=yb am
       have ay:(wr.alloc (.cells R.toArray 66)).rangeAt wr.heap.size 0 R:=by
        have:=zp (World.alloc_heap_new wr (.cells R.toArray 66)) 0 R.length
        simpa using this
       obtain ⟨⟨C0,r0,k0⟩,⟨C1,r1,k1⟩,⟨C2,r2,k2⟩,⟨C3,r3,k3⟩,⟨C4,r4,k4⟩,⟨C5,r5,k5⟩,⟨C6,r6,k6⟩,⟨C7,r7,k7⟩⟩:=Po ay hv
       generalize x.reaches[i].delay=g at k0 t
       generalize x.reaches[i].cap=m at k1 t
       generalize x.reaches[i].bank=j at k2 t
       generalize x.reaches[i].siphon=s at k3 t
       generalize x.reaches[i].evap0=B at k4 t
       generalize x.reaches[i].evap1=Q at k5 t
       generalize x.reaches[i].seep0=T at k6 t
       generalize x.reaches[i].seep1=S at k7 t
       have ai:=yb k0
       have ap:=yb k1
       have ao:=yb k2
       have ba:=yb k3
       have bu:=yb k4
       have cm:=yb k5
       have cr:=yb k6
       have d5:=yb k7
       obtain ⟨a0,p0,rfl,_⟩:=k0.cells
       obtain ⟨a1,p1,rfl,_⟩:=k1.cells
       obtain ⟨a2,p2,rfl,_⟩:=k2.cells
       obtain ⟨a3,p3,rfl,_⟩:=k3.cells
       obtain ⟨a4,p4,rfl,_⟩:=k4.cells
       obtain ⟨a5,p5,rfl,_⟩:=k5.cells
       obtain ⟨a6,p6,rfl,_⟩:=k6.cells
       obtain ⟨a7,p7,rfl,_⟩:=k7.cells
       have aj:=yb r0
       have an:=yb r1
       have al:=yb r2
       have b8:=yb r3
       have bt:=yb r4
       have cn:=yb r5
       have co:=yb r6
       have cx:=yb r7
       obtain ⟨rows,G,A⟩:=H.o.own
       have M:=yb A
       have K:Hid (rows.length+8<=1000000000):=yb (by rw[A.length];omega)
       have ah:Hid (Below wr.heap.size wr (wr.alloc (.cells R.toArray 66))):=yb ((yg _ _).alloc (yf _) _)
       have O:=yb (G.up ah.o)
       have bj:=yb (H.o.below.trans (ah.o.mono H.o.size))
       have av:Hid ((w.heap.size+1)<=(wr.alloc (.cells R.toArray 66)).heap.size):=yb (yu H.o.size ah.o.size)
       clear Y he G A af V am hv ay r0 r1 r2 r3 r4 r5 r6 r7
       have F:Hid (Below (wr.alloc (.cells R.toArray 66)).heap.size (wr.alloc (.cells R.toArray 66)) ((wr.alloc (.cells R.toArray 66)).alloc (.cells #[iV g.op,iV g.n,iV g.u,.string g.rn,iV g.ri,.slice a0 g.args.length p0,iV m.op,iV m.n,iV m.u,.string m.rn,iV m.ri,.slice a1 m.args.length p1,iV j.op,iV j.n,iV j.u,.string j.rn,iV j.ri,.slice a2 j.args.length p2,iV s.op,iV s.n,iV s.u,.string s.rn,iV s.ri,.slice a3 s.args.length p3,iV B.op,iV B.n,iV B.u,.string B.rn,iV B.ri,.slice a4 B.args.length p4,iV Q.op,iV Q.n,iV Q.u,.string Q.rn,iV Q.ri,.slice a5 Q.args.length p5,iV T.op,iV T.n,iV T.u,.string T.rn,iV T.ri,.slice a6 T.args.length p6,iV S.op,iV S.n,iV S.u,.string S.rn,iV S.ri,.slice a7 S.args.length p7] 26))):=yb ((yg _ _).alloc (yf _) _)
       have I:=yb (O.o.up F.o)
       have aa:=yb (bj.o.trans (F.o.mono av.o))
       have J:Hid (((wr.alloc (.cells R.toArray 66)).alloc (.cells #[iV g.op,iV g.n,iV g.u,.string g.rn,iV g.ri,.slice a0 g.args.length p0,iV m.op,iV m.n,iV m.u,.string m.rn,iV m.ri,.slice a1 m.args.length p1,iV j.op,iV j.n,iV j.u,.string j.rn,iV j.ri,.slice a2 j.args.length p2,iV s.op,iV s.n,iV s.u,.string s.rn,iV s.ri,.slice a3 s.args.length p3,iV B.op,iV B.n,iV B.u,.string B.rn,iV B.ri,.slice a4 B.args.length p4,iV Q.op,iV Q.n,iV Q.u,.string Q.rn,iV Q.ri,.slice a5 Q.args.length p5,iV T.op,iV T.n,iV T.u,.string T.rn,iV T.ri,.slice a6 T.args.length p6,iV S.op,iV S.n,iV S.u,.string S.rn,iV S.ri,.slice a7 S.args.length p7] 26)).heap[wr.heap.size+1]?=some (.cells #[iV g.op,iV g.n,iV g.u,.string g.rn,iV g.ri,.slice a0 g.args.length p0,iV m.op,iV m.n,iV m.u,.string m.rn,iV m.ri,.slice a1 m.args.length p1,iV j.op,iV j.n,iV j.u,.string j.rn,iV j.ri,.slice a2 j.args.length p2,iV s.op,iV s.n,iV s.u,.string s.rn,iV s.ri,.slice a3 s.args.length p3,iV B.op,iV B.n,iV B.u,.string B.rn,iV B.ri,.slice a4 B.args.length p4,iV Q.op,iV Q.n,iV Q.u,.string Q.rn,iV Q.ri,.slice a5 Q.args.length p5,iV T.op,iV T.n,iV T.u,.string T.rn,iV T.ri,.slice a6 T.args.length p6,iV S.op,iV S.n,iV S.u,.string S.rn,iV S.ri,.slice a7 S.args.length p7] 26 (0,0))):=yb (by
        have h:=World.alloc_heap_new (wr.alloc (.cells R.toArray 66)) (.cells #[iV g.op,iV g.n,iV g.u,.string g.rn,iV g.ri,.slice a0 g.args.length p0,iV m.op,iV m.n,iV m.u,.string m.rn,iV m.ri,.slice a1 m.args.length p1,iV j.op,iV j.n,iV j.u,.string j.rn,iV j.ri,.slice a2 j.args.length p2,iV s.op,iV s.n,iV s.u,.string s.rn,iV s.ri,.slice a3 s.args.length p3,iV B.op,iV B.n,iV B.u,.string B.rn,iV B.ri,.slice a4 B.args.length p4,iV Q.op,iV Q.n,iV Q.u,.string Q.rn,iV Q.ri,.slice a5 Q.args.length p5,iV T.op,iV T.n,iV T.u,.string T.rn,iV T.ri,.slice a6 T.args.length p6,iV S.op,iV S.n,iV S.u,.string S.rn,iV S.ri,.slice a7 S.args.length p7] 26)
        rw[z6] at h;exact h)
       have r:Hid ((w.heap.size+1)<=((wr.alloc (.cells R.toArray 66)).alloc (.cells #[iV g.op,iV g.n,iV g.u,.string g.rn,iV g.ri,.slice a0 g.args.length p0,iV m.op,iV m.n,iV m.u,.string m.rn,iV m.ri,.slice a1 m.args.length p1,iV j.op,iV j.n,iV j.u,.string j.rn,iV j.ri,.slice a2 j.args.length p2,iV s.op,iV s.n,iV s.u,.string s.rn,iV s.ri,.slice a3 s.args.length p3,iV B.op,iV B.n,iV B.u,.string B.rn,iV B.ri,.slice a4 B.args.length p4,iV Q.op,iV Q.n,iV Q.u,.string Q.rn,iV Q.ri,.slice a5 Q.args.length p5,iV T.op,iV T.n,iV T.u,.string T.rn,iV T.ri,.slice a6 T.args.length p6,iV S.op,iV S.n,iV S.u,.string S.rn,iV S.ri,.slice a7 S.args.length p7] 26)).heap.size):=yb (yu av.o F.o.size)
       go_wp2_with (first|(refine yj rfl 66 _ rfl b (o+i*51) rfl R _ b5.o j8 rfl b7.o ?_)|(refine ze rfl 66 _ _ rfl wr.heap.size R.toArray rfl rfl 66 _ (World.alloc_heap_new _ _) b0.o (by simp[bk.o]) ak.o ?_;rw[World.setRow_alloc_new])|(refine yj rfl 26 _ rfl wr.heap.size (3) rfl [iV g.op,iV g.n,iV g.u,.string g.rn,iV g.ri,.slice a0 g.args.length p0] _ aj.o qP rfl (by kernel_rfl) ?_)|(refine yj rfl 26 _ rfl wr.heap.size (9) rfl [iV m.op,iV m.n,iV m.u,.string m.rn,iV m.ri,.slice a1 m.args.length p1] _ an.o qP rfl (by kernel_rfl) ?_)|(refine yj rfl 26 _ rfl wr.heap.size (15) rfl [iV j.op,iV j.n,iV j.u,.string j.rn,iV j.ri,.slice a2 j.args.length p2] _ al.o qP rfl (by kernel_rfl) ?_)|(refine yj rfl 26 _ rfl wr.heap.size (21) rfl [iV s.op,iV s.n,iV s.u,.string s.rn,iV s.ri,.slice a3 s.args.length p3] _ b8.o qP rfl (by kernel_rfl) ?_)|(refine yj rfl 26 _ rfl wr.heap.size (27) rfl [iV B.op,iV B.n,iV B.u,.string B.rn,iV B.ri,.slice a4 B.args.length p4] _ bt.o qP rfl (by kernel_rfl) ?_)|(refine yj rfl 26 _ rfl wr.heap.size (33) rfl [iV Q.op,iV Q.n,iV Q.u,.string Q.rn,iV Q.ri,.slice a5 Q.args.length p5] _ cn.o qP rfl (by kernel_rfl) ?_)|(refine yj rfl 26 _ rfl wr.heap.size (39) rfl [iV T.op,iV T.n,iV T.u,.string T.rn,iV T.ri,.slice a6 T.args.length p6] _ co.o qP rfl (by kernel_rfl) ?_)|(refine yj rfl 26 _ rfl wr.heap.size (45) rfl [iV S.op,iV S.n,iV S.u,.string S.rn,iV S.ri,.slice a7 S.args.length p7] _ cx.o qP rfl (by kernel_rfl) ?_)|(at_builtin;refine Bb (w.heap.size+1) rfl _ _ rfl u3 rows rfl I.o (wr.heap.size+1) 8 8 [[iV g.op,iV g.n,iV g.u,.string g.rn,iV g.ri,.slice a0 g.args.length p0],[iV m.op,iV m.n,iV m.u,.string m.rn,iV m.ri,.slice a1 m.args.length p1],[iV j.op,iV j.n,iV j.u,.string j.rn,iV j.ri,.slice a2 j.args.length p2],[iV s.op,iV s.n,iV s.u,.string s.rn,iV s.ri,.slice a3 s.args.length p3],[iV B.op,iV B.n,iV B.u,.string B.rn,iV B.ri,.slice a4 B.args.length p4],[iV Q.op,iV Q.n,iV Q.u,.string Q.rn,iV Q.ri,.slice a5 Q.args.length p5],[iV T.op,iV T.n,iV T.u,.string T.rn,iV T.ri,.slice a6 T.args.length p6],[iV S.op,iV S.n,iV S.u,.string S.rn,iV S.ri,.slice a7 S.args.length p7]] #[iV g.op,iV g.n,iV g.u,.string g.rn,iV g.ri,.slice a0 g.args.length p0,iV m.op,iV m.n,iV m.u,.string m.rn,iV m.ri,.slice a1 m.args.length p1,iV j.op,iV j.n,iV j.u,.string j.rn,iV j.ri,.slice a2 j.args.length p2,iV s.op,iV s.n,iV s.u,.string s.rn,iV s.ri,.slice a3 s.args.length p3,iV B.op,iV B.n,iV B.u,.string B.rn,iV B.ri,.slice a4 B.args.length p4,iV Q.op,iV Q.n,iV Q.u,.string Q.rn,iV Q.ri,.slice a5 Q.args.length p5,iV T.op,iV T.n,iV T.u,.string T.rn,iV T.ri,.slice a6 T.args.length p6,iV S.op,iV S.n,iV S.u,.string S.rn,iV S.ri,.slice a7 S.args.length p7] rfl rfl J.o rfl (by simp[Value.oneCell']) rfl K.o r.o ?_;intro au n5 c5 w5 y C;have ac:=yb y;have ab:=yb (E7 aa.o r.o I.o C);have ad:Hid ((w.heap.size+1)<=w5.heap.size):=yb (yu r.o C.size);have aq:=yb C;clear y C))
       exact ⟨⟨i+1,by omega,by push_cast;rfl,yb ⟨ab.o,ad.o,_,ac.o,by rw[t.o];exact M.o.append ⟨ai.o,ap.o,ao.o,ba.o,bu.o,cm.o,cr.o,d5.o,trivial⟩⟩⟩,by simp[intOf];omega⟩
      ·obtain rfl:i=L.reaches.n:=by omega
       have Z:decide ((L.reaches.n:Int) < (L.reaches.n:Int))=false:=by simp
       have P:Hid (Km (w.heap.size+1) N w0 (JF x++x.reaches.flatMap Ev) wr u3):=yb (by
        have h:=H.o
        rw[ae.o.reaches,yS] at h
        exact h)
       go_wp2
       obtain ⟨dv,rfl⟩:∃z:World,z=wr:=⟨_,rfl⟩
       obtain ⟨d9,rfl⟩:∃z:Value,z=u3:=⟨_,rfl⟩
       have X:Hid (Km (w.heap.size+1) N w0 (JG x++(x.farms.take 0).flatMap (fun d=> [d.area])) dv d9):=yb (by
        rw[zY,zx,yU];exact P.o)
       clear hf Z H P
       go_loopw [3,8] (fun v3 iv wr=>∃i:Nat,i<=L.farms.n∧iv=iV i∧Hid (Km (w.heap.size+1) N w0 (JG x++(x.farms.take i).flatMap (fun d=> [d.area])) wr v3)) (fun _ iv _=>L.farms.n - (intOf iv).toNat)
       case atStart=>exact ⟨0,yI _,rfl,X⟩
       case round=>
        clear X
        obtain ⟨i,hi,rfl,H⟩:=hrel
        have hf:wr.cell? (aV w.heap.size 22)=some (.slice L.farms.a L.farms.n L.farms.c):=bb.o wr H.o.below 22 _ b9.o.farms
        have ar:L.farms.n<=140737488355328:=bd.o.farms.1
        by_cases ag:i < L.farms.n
        ·have U:i < x.farms.length:=by rw[<-ae.o.farms];exact ag
         have Z:(i:Int) < (L.farms.n:Int):=by omega
         obtain ⟨b,o,he,V,c,Y,a8⟩:=bw.o.farms i U
         rw[he] at hf
         have t:Hid (JG x++(x.farms.take (i+1)).flatMap (fun d=> [d.area])=(JG x++(x.farms.take i).flatMap (fun d=> [d.area]))++[x.farms[i].area]):=yb (by rw[DU U,yG])
         have af:(JG x++(x.farms.take i).flatMap (fun d=> [d.area])).length<=20000:=by
          have h1:=ES (l:=x.farms) (f:=(fun d=> [d.area])) (c:=1) (i:=i) (fun _ _=>by simp)
          have h2:=b4.o.t4;have h3:=aw.o.farms
          rw[yn]
          skip
          omega
         generalize x.farms[i].area=E at a8 t
         have bh:=yb a8
         obtain ⟨a',p',rfl,_⟩:=a8.cells
         have be:=yb (A0 Y ((az.o wr H.o.below) b V))
         obtain ⟨rows,G,A⟩:=H.o.own
         have O:=yb G;have M:=yb A
         have K:Hid (rows.length+1<=1000000000):=yb (by rw[A.length];omega)
         clear Y a8 he G A af V
         have F:Hid (Below wr.heap.size wr (wr.alloc (.cells #[iV E.op,iV E.n,iV E.u,.string E.rn,iV E.ri,.slice a' E.args.length p'] 26))):=yb ((yg _ _).alloc (yf _) _)
         have I:=yb (O.o.up F.o)
         have aa:=yb (H.o.below.trans (F.o.mono H.o.size))
         have J:Hid ((wr.alloc (.cells #[iV E.op,iV E.n,iV E.u,.string E.rn,iV E.ri,.slice a' E.args.length p'] 26)).heap[wr.heap.size]?=some (.cells #[iV E.op,iV E.n,iV E.u,.string E.rn,iV E.ri,.slice a' E.args.length p'] 26 (0,0))):=yb (by
          have h:=World.alloc_heap_new wr (.cells #[iV E.op,iV E.n,iV E.u,.string E.rn,iV E.ri,.slice a' E.args.length p'] 26)
          exact h)
         have r:Hid ((w.heap.size+1)<=(wr.alloc (.cells #[iV E.op,iV E.n,iV E.u,.string E.rn,iV E.ri,.slice a' E.args.length p'] 26)).heap.size):=yb (yu H.o.size F.o.size)
         go_wp2_with (first|(refine yj rfl 26 _ rfl b (o+i*12+4) rfl [iV E.op,iV E.n,iV E.u,.string E.rn,iV E.ri,.slice a' E.args.length p'] _ be.o qP rfl (by kernel_rfl) ?_)|(at_builtin;refine Bb (w.heap.size+1) rfl _ _ rfl u3 rows rfl I.o (wr.heap.size) 1 1 [[iV E.op,iV E.n,iV E.u,.string E.rn,iV E.ri,.slice a' E.args.length p']] #[iV E.op,iV E.n,iV E.u,.string E.rn,iV E.ri,.slice a' E.args.length p'] rfl rfl J.o rfl (by simp[Value.oneCell']) rfl K.o r.o ?_;intro au n5 c5 w5 y C;have ac:=yb y;have ab:=yb (E7 aa.o r.o I.o C);have ad:Hid ((w.heap.size+1)<=w5.heap.size):=yb (yu r.o C.size);have aq:=yb C;clear y C))
         exact ⟨⟨i+1,by omega,by push_cast;rfl,yb ⟨ab.o,ad.o,_,ac.o,by rw[t.o];exact M.o.append ⟨bh.o,trivial⟩⟩⟩,by simp[intOf];omega⟩
        ·obtain rfl:i=L.farms.n:=by omega
         have Z:decide ((L.farms.n:Int) < (L.farms.n:Int))=false:=by simp
         have P:Hid (Km (w.heap.size+1) N w0 (JG x++x.farms.flatMap (fun d=> [d.area])) wr u3):=yb (by
          have h:=H.o
          rw[ae.o.farms,yS] at h
          exact h)
         go_wp2
         obtain ⟨da,rfl⟩:∃z:World,z=wr:=⟨_,rfl⟩
         obtain ⟨dd,rfl⟩:∃z:Value,z=u3:=⟨_,rfl⟩
         have X:Hid (Km (w.heap.size+1) N w0 (GW x++(x.rots.take 0).flatMap GS) da dd):=yb (by
          rw[zY,zx,yU];exact P.o)
         clear hf Z H P
         go_loopw [3,9] (fun v3 iv wr=>∃i:Nat,i<=L.rots.n∧iv=iV i∧Hid (Km (w.heap.size+1) N w0 (GW x++(x.rots.take i).flatMap GS) wr v3)) (fun _ iv _=>L.rots.n - (intOf iv).toNat)
         case atStart=>exact ⟨0,yI _,rfl,X⟩
         case round=>
          clear X
          obtain ⟨i,hi,rfl,H⟩:=hrel
          have hf:wr.cell? (aV w.heap.size 23)=some (.slice L.rots.a L.rots.n L.rots.c):=bb.o wr H.o.below 23 _ b9.o.rots
          have ar:L.rots.n<=140737488355328:=bd.o.rots.1
          by_cases ag:i < L.rots.n
          ·have U:i < x.rots.length:=by rw[<-ae.o.rots];exact ag
           have Z:(i:Int) < (L.rots.n:Int):=by omega
           obtain ⟨b,o,R,he,V,am,Y,hv⟩:=bv.o.rots.2.2 i U
           rw[he] at hf
           have t:Hid (GW x++(x.rots.take (i+1)).flatMap GS=(GW x++(x.rots.take i).flatMap GS)++([x.rots[i].flow,x.rots[i].frm,x.rots[i].to]++x.rots[i].turns.flatMap (fun k:Cs=> [k.len]))):=yb (by rw[DU U,yG];rfl)
           have af:(GW x++(x.rots.take i).flatMap GS).length<=20000:=by
            have h1:=ES (l:=x.rots) (f:=GS) (c:=73) (i:=i) (fun d hd=>by
             have h1:(d.turns.flatMap (fun k:Cs=> [k.len])).length<=d.turns.length*1:=Bj fun _ _=>by simp
             have:=aw.o.turns d hd
             simp only[GS,yn,yz,yH];omega)
            have h2:=b4.o.t5;have h3:=aw.o.rots
            rw[yn]
            omega
           have cj:x.rots[i].turns.length<=70:=aw.o.turns _ (yJ U)
           have b5:=yb (A0 Y ((az.o wr H.o.below) b V))
           have ak:=yb (zb (IV hv))
           have b7:Hid ((Tryz.prog.info? 109).map (·.size)=some R.length):=yb (by rw[am];kernel_rfl)
           have b0:Hid ((Tryz.prog.info? 109).map (·.size)=some R.toArray.size):=yb (by rw[yM];exact b7.o)
           have bk:=yb am
           have ay:(wr.alloc (.cells R.toArray 109)).rangeAt wr.heap.size 0 R:=by
            have:=zp (World.alloc_heap_new wr (.cells R.toArray 109)) 0 R.length
            simpa using this
           obtain ⟨⟨C0,r0,k0⟩,⟨C1,r1,k1⟩,⟨C2,r2,k2⟩,cq,c8⟩:=T4 ay hv
           have dr:=yb cq
           have bz:=yb c8
           have dw:(A2 L i).n<=140737488355328:=by rw[c8.1];exact c8.2.1
           generalize x.rots[i].flow=g at k0 t
           generalize x.rots[i].frm=m at k1 t
           generalize x.rots[i].to=j at k2 t
           generalize x.rots[i].turns=D at bz cj t
           have ai:=yb k0;have ap:=yb k1;have ao:=yb k2
           obtain ⟨a0,p0,rfl,_⟩:=k0.cells
           obtain ⟨a1,p1,rfl,_⟩:=k1.cells
           obtain ⟨a2,p2,rfl,_⟩:=k2.cells
           have aj:=yb r0;have an:=yb r1;have al:=yb r2
           obtain ⟨rows,G,A⟩:=H.o.own
           have M:=yb A
           have K:Hid (rows.length+3<=1000000000):=yb (by rw[A.length];omega)
           have ah:Hid (Below wr.heap.size wr (wr.alloc (.cells R.toArray 109))):=yb ((yg _ _).alloc (yf _) _)
           have O:=yb (G.up ah.o)
           have bj:=yb (H.o.below.trans (ah.o.mono H.o.size))
           have av:Hid ((w.heap.size+1)<=(wr.alloc (.cells R.toArray 109)).heap.size):=yb (yu H.o.size ah.o.size)
           have bp:Hid ((wr.alloc (.cells R.toArray 109)).heap[wr.heap.size]?=some (.cells R.toArray 109 (0,0))):=yb (World.alloc_heap_new _ _)
           have dp:=yb cj;have cw:=yb af
           clear Y he G A af V am hv ay r0 r1 r2 cq c8 cj
           obtain ⟨gb,cp⟩:∃gb,gb=wr.heap.size:=⟨_,rfl⟩
           have dx:=yb cp
           clear cp
           have F:Hid (Below (wr.alloc (.cells R.toArray 109)).heap.size (wr.alloc (.cells R.toArray 109)) ((wr.alloc (.cells R.toArray 109)).alloc (.cells #[iV g.op,iV g.n,iV g.u,.string g.rn,iV g.ri,.slice a0 g.args.length p0,iV m.op,iV m.n,iV m.u,.string m.rn,iV m.ri,.slice a1 m.args.length p1,iV j.op,iV j.n,iV j.u,.string j.rn,iV j.ri,.slice a2 j.args.length p2] 26))):=yb ((yg _ _).alloc (yf _) _)
           have I:=yb (O.o.up F.o)
           have aa:=yb (bj.o.trans (F.o.mono av.o))
           have J:Hid (((wr.alloc (.cells R.toArray 109)).alloc (.cells #[iV g.op,iV g.n,iV g.u,.string g.rn,iV g.ri,.slice a0 g.args.length p0,iV m.op,iV m.n,iV m.u,.string m.rn,iV m.ri,.slice a1 m.args.length p1,iV j.op,iV j.n,iV j.u,.string j.rn,iV j.ri,.slice a2 j.args.length p2] 26)).heap[wr.heap.size+1]?=some (.cells #[iV g.op,iV g.n,iV g.u,.string g.rn,iV g.ri,.slice a0 g.args.length p0,iV m.op,iV m.n,iV m.u,.string m.rn,iV m.ri,.slice a1 m.args.length p1,iV j.op,iV j.n,iV j.u,.string j.rn,iV j.ri,.slice a2 j.args.length p2] 26 (0,0))):=yb (by
            have h:=World.alloc_heap_new (wr.alloc (.cells R.toArray 109)) (.cells #[iV g.op,iV g.n,iV g.u,.string g.rn,iV g.ri,.slice a0 g.args.length p0,iV m.op,iV m.n,iV m.u,.string m.rn,iV m.ri,.slice a1 m.args.length p1,iV j.op,iV j.n,iV j.u,.string j.rn,iV j.ri,.slice a2 j.args.length p2] 26)
            rw[z6] at h;exact h)
           have r:Hid ((w.heap.size+1)<=((wr.alloc (.cells R.toArray 109)).alloc (.cells #[iV g.op,iV g.n,iV g.u,.string g.rn,iV g.ri,.slice a0 g.args.length p0,iV m.op,iV m.n,iV m.u,.string m.rn,iV m.ri,.slice a1 m.args.length p1,iV j.op,iV j.n,iV j.u,.string j.rn,iV j.ri,.slice a2 j.args.length p2] 26)).heap.size):=yb (yu av.o F.o.size)
           go_wp2_with (first|(refine yj rfl 109 _ rfl b (o+i*23) rfl R _ b5.o qH rfl b7.o ?_)|(refine ze rfl 109 _ _ rfl wr.heap.size R.toArray rfl rfl 109 _ (World.alloc_heap_new _ _) b0.o (by simp[bk.o]) ak.o ?_;rw[World.setRow_alloc_new])|(refine yj rfl 26 _ rfl wr.heap.size (4) rfl [iV g.op,iV g.n,iV g.u,.string g.rn,iV g.ri,.slice a0 g.args.length p0] _ aj.o qP rfl (by kernel_rfl) ?_)|(refine yj rfl 26 _ rfl wr.heap.size (10) rfl [iV m.op,iV m.n,iV m.u,.string m.rn,iV m.ri,.slice a1 m.args.length p1] _ an.o qP rfl (by kernel_rfl) ?_)|(refine yj rfl 26 _ rfl wr.heap.size (16) rfl [iV j.op,iV j.n,iV j.u,.string j.rn,iV j.ri,.slice a2 j.args.length p2] _ al.o qP rfl (by kernel_rfl) ?_)|(at_builtin;refine Bb (w.heap.size+1) rfl _ _ rfl u3 rows rfl I.o (wr.heap.size+1) 3 3 [[iV g.op,iV g.n,iV g.u,.string g.rn,iV g.ri,.slice a0 g.args.length p0],[iV m.op,iV m.n,iV m.u,.string m.rn,iV m.ri,.slice a1 m.args.length p1],[iV j.op,iV j.n,iV j.u,.string j.rn,iV j.ri,.slice a2 j.args.length p2]] #[iV g.op,iV g.n,iV g.u,.string g.rn,iV g.ri,.slice a0 g.args.length p0,iV m.op,iV m.n,iV m.u,.string m.rn,iV m.ri,.slice a1 m.args.length p1,iV j.op,iV j.n,iV j.u,.string j.rn,iV j.ri,.slice a2 j.args.length p2] rfl rfl J.o rfl (by simp[Value.oneCell']) rfl K.o r.o ?_;intro au n5 c5 w5 y C;have ac:=yb y;have ab:=yb (E7 aa.o r.o I.o C);have ad:Hid ((w.heap.size+1)<=w5.heap.size):=yb (yu r.o C.size);have aq:=yb C;clear y C))
           have ax:Hid (w5.heap[wr.heap.size]?=some (.cells R.toArray 109 (0,0))):=yb (by
            have e1:((wr.alloc (.cells R.toArray 109)).alloc (.cells #[iV g.op,iV g.n,iV g.u,.string g.rn,iV g.ri,.slice a0 g.args.length p0,iV m.op,iV m.n,iV m.u,.string m.rn,iV m.ri,.slice a1 m.args.length p1,iV j.op,iV j.n,iV j.u,.string j.rn,iV j.ri,.slice a2 j.args.length p2] 26)).heap[wr.heap.size]?=some (.cells R.toArray 109 (0,0)):=(F.o.block _ (by simp)).trans bp.o
            exact (aq.o.block _ (yd.1 e1).1 (fun e=>UI I.o e1 (by decide) e.symm)).trans e1)
           have d1:Hid (Km (w.heap.size+1) N w0 ((GW x++(x.rots.take i).flatMap GS)++([g,m,j]++(D.take 0).flatMap (fun k:Cs=> [k.len]))) w5 (.slice au n5 c5)):=yb ⟨ab.o,ad.o,_,ac.o,by
            rw[zY,zx,yU]
            exact M.o.append ⟨ai.o,ap.o,ao.o,trivial⟩⟩
           clear ac ab ad aq M O K J r aa I F bj av ah bp H hf
           obtain ⟨wo,rfl⟩:∃z:World,z=wr:=⟨_,rfl⟩
           obtain ⟨vo,rfl⟩:∃z:Value,z=u3:=⟨_,rfl⟩
           go_loopw [3,11] (fun v3 iv wr=>∃k:Nat,k<=(A2 L i).n∧iv=iV k∧Hid (Km (w.heap.size+1) N w0 ((GW x++(x.rots.take i).flatMap GS)++([g,m,j]++(D.take k).flatMap (fun k:Cs=> [k.len]))) wr v3)∧Hid (wr.heap[wo.heap.size]?=some (.cells R.toArray 109 (0,0)))) (fun _ iv _=>(A2 L i).n - (intOf iv).toNat)
           case atStart=>exact ⟨0,yI _,rfl,d1,ax⟩
           case round=>
            clear d1 ax
            obtain ⟨k,hk,rfl,bi,cd⟩:=hrel
            have dl:wr.cell? (aV wo.heap.size 22)=some (.slice (A2 L i).a (A2 L i).n (A2 L i).c):=by
             simp only[World.cell?,cd.o]
             have h:=dr.o
             unfold Aw.v at h
             simpa using h
            by_cases dt:k < (A2 L i).n
            ·have d7:k < D.length:=by rw[<-bz.o.1];exact dt
             have dk:(k:Int) < ((A2 L i).n:Int):=by omega
             obtain ⟨b2,o2,c2,d3,d0,dc,c9,cy,ct,rfl,bo⟩:=bz.o.2.2 k d7
             rw[d3] at dl
             have cv:w0.rangeAt b2 (o2+k*8+2) ct:=by
              have:=D7 (p:=AU D[k].farm) (c:=ct) (q:=[]) (by simpa using c9)
              exact this
             have cc:Hid (((GW x++(x.rots.take i).flatMap GS)++([g,m,j]++(D.take (k+1)).flatMap (fun k:Cs=> [k.len])))=((GW x++(x.rots.take i).flatMap GS)++([g,m,j]++(D.take k).flatMap (fun k:Cs=> [k.len])))++[D[k].len]):=yb (by rw[DU d7];simp only[yG])
             generalize D[k].len=s at bo cc
             have ba:=yb bo
             obtain ⟨a3,p3,rfl,_⟩:=bo.cells
             have b8:=yb (A0 cv ((az.o wr bi.o.below) b2 d0))
             obtain ⟨bq,bm,bg⟩:=bi.o.own
             have ce:=yb bm;have ck:=yb bg
             have K:Hid (bq.length+1<=1000000000):=yb (by
              have h1:=ES (l:=D) (f:=(fun k:Cs=> [k.len])) (c:=1) (i:=k) (fun _ _=>by simp)
              have h2:=dp.o;have h3:=cw.o
              rw[bg.length]
              simp only[yn,yz,yH] at h3 ⊢
              omega)
             clear c9 cv bm bg d0 dc cy d3
             have F:Hid (Below wr.heap.size wr (wr.alloc (.cells #[iV s.op,iV s.n,iV s.u,.string s.rn,iV s.ri,.slice a3 s.args.length p3] 26))):=yb ((yg _ _).alloc (yf _) _)
             have I:=yb (ce.o.up F.o)
             have aa:=yb (bi.o.below.trans (F.o.mono bi.o.size))
             have J:Hid ((wr.alloc (.cells #[iV s.op,iV s.n,iV s.u,.string s.rn,iV s.ri,.slice a3 s.args.length p3] 26)).heap[wr.heap.size]?=some (.cells #[iV s.op,iV s.n,iV s.u,.string s.rn,iV s.ri,.slice a3 s.args.length p3] 26 (0,0))):=yb (by
              have h:=World.alloc_heap_new wr (.cells #[iV s.op,iV s.n,iV s.u,.string s.rn,iV s.ri,.slice a3 s.args.length p3] 26)
              exact h)
             have r:Hid ((w.heap.size+1)<=(wr.alloc (.cells #[iV s.op,iV s.n,iV s.u,.string s.rn,iV s.ri,.slice a3 s.args.length p3] 26)).heap.size):=yb (yu bi.o.size F.o.size)
             go_wp2_with (first|(refine yj rfl 26 _ rfl b2 (o2+k*8+2) rfl [iV s.op,iV s.n,iV s.u,.string s.rn,iV s.ri,.slice a3 s.args.length p3] _ b8.o qP rfl (by kernel_rfl) ?_)|(at_builtin;refine Bb (w.heap.size+1) rfl _ _ rfl u3 bq rfl I.o (wr.heap.size) 1 1 [[iV s.op,iV s.n,iV s.u,.string s.rn,iV s.ri,.slice a3 s.args.length p3]] #[iV s.op,iV s.n,iV s.u,.string s.rn,iV s.ri,.slice a3 s.args.length p3] rfl rfl J.o rfl (by simp[Value.oneCell']) rfl K.o r.o ?_;intro dy n6 c6 w6 y C;have du:=yb y;have dn:=yb (E7 aa.o r.o I.o C);have dq:Hid ((w.heap.size+1)<=w6.heap.size):=yb (yu r.o C.size);have dm:=yb C;clear y C))
             have ax:Hid (w6.heap[wo.heap.size]?=some (.cells R.toArray 109 (0,0))):=yb (by
              have e1:=(F.o.block _ (yd.1 cd.o).1).trans cd.o
              exact (dm.o.block _ (yd.1 e1).1 (fun e=>UI I.o e1 (by decide) e.symm)).trans e1)
             exact ⟨⟨k+1,by omega,by push_cast;rfl,yb ⟨dn.o,dq.o,_,du.o,by rw[cc.o];exact ck.o.append ⟨ba.o,trivial⟩⟩,ax⟩,by simp[intOf];omega⟩
            ·obtain rfl:k=(A2 L i).n:=by omega
             have dk:decide (((A2 L i).n:Int) < ((A2 L i).n:Int))=false:=by simp
             have d6:Hid (Km (w.heap.size+1) N w0 (GW x++(x.rots.take (i+1)).flatMap GS) wr u3):=yb (by
              rw[t.o]
              have h:=bi.o
              rw[bz.o.1,yS] at h
              exact h)
             go_wp2
             exact ⟨⟨i+1,by omega,by push_cast;rfl,d6⟩,by simp[intOf];omega⟩
          ·obtain rfl:i=L.rots.n:=by omega
           have Z:decide ((L.rots.n:Int) < (L.rots.n:Int))=false:=by simp
           have P:Hid (Km (w.heap.size+1) N w0 (GW x++x.rots.flatMap GS) wr u3):=yb (by
            have h:=H.o
            rw[ae.o.rots,yS] at h
            exact h)
           go_wp2
           obtain ⟨dg,rfl⟩:∃z:World,z=wr:=⟨_,rfl⟩
           obtain ⟨dh,rfl⟩:∃z:Value,z=u3:=⟨_,rfl⟩
           have X:Hid (Km (w.heap.size+1) N w0 (JH x++(x.rights.take 0).flatMap Ew) dg dh):=yb (by
            rw[zY,zx,yU];exact P.o)
           clear hf Z H P
           go_loopw [3,12] (fun v3 iv wr=>∃i:Nat,i<=L.rights.n∧iv=iV i∧Hid (Km (w.heap.size+1) N w0 (JH x++(x.rights.take i).flatMap Ew) wr v3)) (fun _ iv _=>L.rights.n - (intOf iv).toNat)
           case atStart=>exact ⟨0,yI _,rfl,X⟩
           case round=>
            clear X
            obtain ⟨i,hi,rfl,H⟩:=hrel
            have hf:wr.cell? (aV w.heap.size 24)=some (.slice L.rights.a L.rights.n L.rights.c):=bb.o wr H.o.below 24 _ b9.o.rights
            have ar:L.rights.n<=140737488355328:=bd.o.rights.1
            by_cases ag:i < L.rights.n
            ·have U:i < x.rights.length:=by rw[<-ae.o.rights];exact ag
             have Z:(i:Int) < (L.rights.n:Int):=by omega
             obtain ⟨b,o,R,he,V,am,Y,hv⟩:=bv.o.rights.2.2 i U
             rw[he] at hf
             have t:Hid (JH x++(x.rights.take (i+1)).flatMap Ew=(JH x++(x.rights.take i).flatMap Ew)++[x.rights[i].flow,x.rights[i].frm,x.rights[i].to,x.rights[i].every,x.rights[i].len]):=yb (by rw[DU U,yG];rfl)
             have af:(JH x++(x.rights.take i).flatMap Ew).length<=20000:=by
              have h1:=ES (l:=x.rights) (f:=Ew) (c:=5) (i:=i) (fun _ _=>by simp[Ew])
              have h2:=b4.o.t6;have h3:=aw.o.rights
              rw[yn]
              omega
             have b5:=yb (A0 Y ((az.o wr H.o.below) b V))
             have ak:=yb (zb (Jt _ _ hv))
             have b7:Hid ((Tryz.prog.info? 131).map (·.size)=some R.length):=yb (by rw[am];kernel_rfl)
             have b0:Hid ((Tryz.prog.info? 131).map (·.size)=some R.toArray.size):=yb (by rw[yM];exact b7.o)
             have bk:=yb am
             have ay:(wr.alloc (.cells R.toArray 131)).rangeAt wr.heap.size 0 R:=by
              have:=zp (World.alloc_heap_new wr (.cells R.toArray 131)) 0 R.length
              simpa using this
             obtain ⟨⟨C0,r0,k0⟩,⟨C1,r1,k1⟩,⟨C2,r2,k2⟩,⟨C3,r3,k3⟩,⟨C4,r4,k4⟩⟩:=Pq ay hv
             generalize x.rights[i].flow=g at k0 t
             generalize x.rights[i].frm=m at k1 t
             generalize x.rights[i].to=j at k2 t
             generalize x.rights[i].every=s at k3 t
             generalize x.rights[i].len=B at k4 t
             have ai:=yb k0
             have ap:=yb k1
             have ao:=yb k2
             have ba:=yb k3
             have bu:=yb k4
             obtain ⟨a0,p0,rfl,_⟩:=k0.cells
             obtain ⟨a1,p1,rfl,_⟩:=k1.cells
             obtain ⟨a2,p2,rfl,_⟩:=k2.cells
             obtain ⟨a3,p3,rfl,_⟩:=k3.cells
             obtain ⟨a4,p4,rfl,_⟩:=k4.cells
             have aj:=yb r0
             have an:=yb r1
             have al:=yb r2
             have b8:=yb r3
             have bt:=yb r4
             obtain ⟨rows,G,A⟩:=H.o.own
             have M:=yb A
             have K:Hid (rows.length+5<=1000000000):=yb (by rw[A.length];omega)
             have ah:Hid (Below wr.heap.size wr (wr.alloc (.cells R.toArray 131))):=yb ((yg _ _).alloc (yf _) _)
             have O:=yb (G.up ah.o)
             have bj:=yb (H.o.below.trans (ah.o.mono H.o.size))
             have av:Hid ((w.heap.size+1)<=(wr.alloc (.cells R.toArray 131)).heap.size):=yb (yu H.o.size ah.o.size)
             clear Y he G A af V am hv ay r0 r1 r2 r3 r4
             have F:Hid (Below (wr.alloc (.cells R.toArray 131)).heap.size (wr.alloc (.cells R.toArray 131)) ((wr.alloc (.cells R.toArray 131)).alloc (.cells #[iV g.op,iV g.n,iV g.u,.string g.rn,iV g.ri,.slice a0 g.args.length p0,iV m.op,iV m.n,iV m.u,.string m.rn,iV m.ri,.slice a1 m.args.length p1,iV j.op,iV j.n,iV j.u,.string j.rn,iV j.ri,.slice a2 j.args.length p2,iV s.op,iV s.n,iV s.u,.string s.rn,iV s.ri,.slice a3 s.args.length p3,iV B.op,iV B.n,iV B.u,.string B.rn,iV B.ri,.slice a4 B.args.length p4] 26))):=yb ((yg _ _).alloc (yf _) _)
             have I:=yb (O.o.up F.o)
             have aa:=yb (bj.o.trans (F.o.mono av.o))
             have J:Hid (((wr.alloc (.cells R.toArray 131)).alloc (.cells #[iV g.op,iV g.n,iV g.u,.string g.rn,iV g.ri,.slice a0 g.args.length p0,iV m.op,iV m.n,iV m.u,.string m.rn,iV m.ri,.slice a1 m.args.length p1,iV j.op,iV j.n,iV j.u,.string j.rn,iV j.ri,.slice a2 j.args.length p2,iV s.op,iV s.n,iV s.u,.string s.rn,iV s.ri,.slice a3 s.args.length p3,iV B.op,iV B.n,iV B.u,.string B.rn,iV B.ri,.slice a4 B.args.length p4] 26)).heap[wr.heap.size+1]?=some (.cells #[iV g.op,iV g.n,iV g.u,.string g.rn,iV g.ri,.slice a0 g.args.length p0,iV m.op,iV m.n,iV m.u,.string m.rn,iV m.ri,.slice a1 m.args.length p1,iV j.op,iV j.n,iV j.u,.string j.rn,iV j.ri,.slice a2 j.args.length p2,iV s.op,iV s.n,iV s.u,.string s.rn,iV s.ri,.slice a3 s.args.length p3,iV B.op,iV B.n,iV B.u,.string B.rn,iV B.ri,.slice a4 B.args.length p4] 26 (0,0))):=yb (by
              have h:=World.alloc_heap_new (wr.alloc (.cells R.toArray 131)) (.cells #[iV g.op,iV g.n,iV g.u,.string g.rn,iV g.ri,.slice a0 g.args.length p0,iV m.op,iV m.n,iV m.u,.string m.rn,iV m.ri,.slice a1 m.args.length p1,iV j.op,iV j.n,iV j.u,.string j.rn,iV j.ri,.slice a2 j.args.length p2,iV s.op,iV s.n,iV s.u,.string s.rn,iV s.ri,.slice a3 s.args.length p3,iV B.op,iV B.n,iV B.u,.string B.rn,iV B.ri,.slice a4 B.args.length p4] 26)
              rw[z6] at h;exact h)
             have r:Hid ((w.heap.size+1)<=((wr.alloc (.cells R.toArray 131)).alloc (.cells #[iV g.op,iV g.n,iV g.u,.string g.rn,iV g.ri,.slice a0 g.args.length p0,iV m.op,iV m.n,iV m.u,.string m.rn,iV m.ri,.slice a1 m.args.length p1,iV j.op,iV j.n,iV j.u,.string j.rn,iV j.ri,.slice a2 j.args.length p2,iV s.op,iV s.n,iV s.u,.string s.rn,iV s.ri,.slice a3 s.args.length p3,iV B.op,iV B.n,iV B.u,.string B.rn,iV B.ri,.slice a4 B.args.length p4] 26)).heap.size):=yb (yu av.o F.o.size)
             go_wp2_with (first|(refine yj rfl 131 _ rfl b (o+i*37) rfl R _ b5.o qI rfl b7.o ?_)|(refine ze rfl 131 _ _ rfl wr.heap.size R.toArray rfl rfl 131 _ (World.alloc_heap_new _ _) b0.o (by simp[bk.o]) ak.o ?_;rw[World.setRow_alloc_new])|(refine yj rfl 26 _ rfl wr.heap.size (7) rfl [iV g.op,iV g.n,iV g.u,.string g.rn,iV g.ri,.slice a0 g.args.length p0] _ aj.o qP rfl (by kernel_rfl) ?_)|(refine yj rfl 26 _ rfl wr.heap.size (13) rfl [iV m.op,iV m.n,iV m.u,.string m.rn,iV m.ri,.slice a1 m.args.length p1] _ an.o qP rfl (by kernel_rfl) ?_)|(refine yj rfl 26 _ rfl wr.heap.size (19) rfl [iV j.op,iV j.n,iV j.u,.string j.rn,iV j.ri,.slice a2 j.args.length p2] _ al.o qP rfl (by kernel_rfl) ?_)|(refine yj rfl 26 _ rfl wr.heap.size (25) rfl [iV s.op,iV s.n,iV s.u,.string s.rn,iV s.ri,.slice a3 s.args.length p3] _ b8.o qP rfl (by kernel_rfl) ?_)|(refine yj rfl 26 _ rfl wr.heap.size (31) rfl [iV B.op,iV B.n,iV B.u,.string B.rn,iV B.ri,.slice a4 B.args.length p4] _ bt.o qP rfl (by kernel_rfl) ?_)|(at_builtin;refine Bb (w.heap.size+1) rfl _ _ rfl u3 rows rfl I.o (wr.heap.size+1) 5 5 [[iV g.op,iV g.n,iV g.u,.string g.rn,iV g.ri,.slice a0 g.args.length p0],[iV m.op,iV m.n,iV m.u,.string m.rn,iV m.ri,.slice a1 m.args.length p1],[iV j.op,iV j.n,iV j.u,.string j.rn,iV j.ri,.slice a2 j.args.length p2],[iV s.op,iV s.n,iV s.u,.string s.rn,iV s.ri,.slice a3 s.args.length p3],[iV B.op,iV B.n,iV B.u,.string B.rn,iV B.ri,.slice a4 B.args.length p4]] #[iV g.op,iV g.n,iV g.u,.string g.rn,iV g.ri,.slice a0 g.args.length p0,iV m.op,iV m.n,iV m.u,.string m.rn,iV m.ri,.slice a1 m.args.length p1,iV j.op,iV j.n,iV j.u,.string j.rn,iV j.ri,.slice a2 j.args.length p2,iV s.op,iV s.n,iV s.u,.string s.rn,iV s.ri,.slice a3 s.args.length p3,iV B.op,iV B.n,iV B.u,.string B.rn,iV B.ri,.slice a4 B.args.length p4] rfl rfl J.o rfl (by simp[Value.oneCell']) rfl K.o r.o ?_;intro au n5 c5 w5 y C;have ac:=yb y;have ab:=yb (E7 aa.o r.o I.o C);have ad:Hid ((w.heap.size+1)<=w5.heap.size):=yb (yu r.o C.size);have aq:=yb C;clear y C))
             exact ⟨⟨i+1,by omega,by push_cast;rfl,yb ⟨ab.o,ad.o,_,ac.o,by rw[t.o];exact M.o.append ⟨ai.o,ap.o,ao.o,ba.o,bu.o,trivial⟩⟩⟩,by simp[intOf];omega⟩
            ·obtain rfl:i=L.rights.n:=by omega
             have Z:decide ((L.rights.n:Int) < (L.rights.n:Int))=false:=by simp
             have P:Hid (Km (w.heap.size+1) N w0 (JH x++x.rights.flatMap Ew) wr u3):=yb (by
              have h:=H.o
              rw[ae.o.rights,yS] at h
              exact h)
             go_wp2
             obtain ⟨de,rfl⟩:∃z:World,z=wr:=⟨_,rfl⟩
             obtain ⟨dj,rfl⟩:∃z:Value,z=u3:=⟨_,rfl⟩
             have X:Hid (Km (w.heap.size+1) N w0 (JI x++(x.duties.take 0).flatMap (fun d=> [d.due])) de dj):=yb (by
              rw[zY,zx,yU];exact P.o)
             clear hf Z H P
             go_loopw [3,14] (fun v3 iv wr=>∃i:Nat,i<=L.duties.n∧iv=iV i∧Hid (Km (w.heap.size+1) N w0 (JI x++(x.duties.take i).flatMap (fun d=> [d.due])) wr v3)) (fun _ iv _=>L.duties.n - (intOf iv).toNat)
             case atStart=>exact ⟨0,yI _,rfl,X⟩
             case round=>
              clear X
              obtain ⟨i,hi,rfl,H⟩:=hrel
              have hf:wr.cell? (aV w.heap.size 25)=some (.slice L.duties.a L.duties.n L.duties.c):=bb.o wr H.o.below 25 _ b9.o.duties
              have ar:L.duties.n<=140737488355328:=bd.o.duties.1
              by_cases ag:i < L.duties.n
              ·have U:i < x.duties.length:=by rw[<-ae.o.duties];exact ag
               have Z:(i:Int) < (L.duties.n:Int):=by omega
               obtain ⟨b,o,he,V,c,Y,a8⟩:=bw.o.duties i U
               rw[he] at hf
               have t:Hid (JI x++(x.duties.take (i+1)).flatMap (fun d=> [d.due])=(JI x++(x.duties.take i).flatMap (fun d=> [d.due]))++[x.duties[i].due]):=yb (by rw[DU U,yG])
               have af:(JI x++(x.duties.take i).flatMap (fun d=> [d.due])).length<=20000:=by
                have h1:=ES (l:=x.duties) (f:=(fun d=> [d.due])) (c:=1) (i:=i) (fun _ _=>by simp)
                have h2:=b4.o.t7;have h3:=aw.o.duties
                rw[yn]
                skip
                omega
               generalize x.duties[i].due=E at a8 t
               have bh:=yb a8
               obtain ⟨a',p',rfl,_⟩:=a8.cells
               have be:=yb (A0 Y ((az.o wr H.o.below) b V))
               obtain ⟨rows,G,A⟩:=H.o.own
               have O:=yb G;have M:=yb A
               have K:Hid (rows.length+1<=1000000000):=yb (by rw[A.length];omega)
               clear Y a8 he G A af V
               have F:Hid (Below wr.heap.size wr (wr.alloc (.cells #[iV E.op,iV E.n,iV E.u,.string E.rn,iV E.ri,.slice a' E.args.length p'] 26))):=yb ((yg _ _).alloc (yf _) _)
               have I:=yb (O.o.up F.o)
               have aa:=yb (H.o.below.trans (F.o.mono H.o.size))
               have J:Hid ((wr.alloc (.cells #[iV E.op,iV E.n,iV E.u,.string E.rn,iV E.ri,.slice a' E.args.length p'] 26)).heap[wr.heap.size]?=some (.cells #[iV E.op,iV E.n,iV E.u,.string E.rn,iV E.ri,.slice a' E.args.length p'] 26 (0,0))):=yb (by
                have h:=World.alloc_heap_new wr (.cells #[iV E.op,iV E.n,iV E.u,.string E.rn,iV E.ri,.slice a' E.args.length p'] 26)
                exact h)
               have r:Hid ((w.heap.size+1)<=(wr.alloc (.cells #[iV E.op,iV E.n,iV E.u,.string E.rn,iV E.ri,.slice a' E.args.length p'] 26)).heap.size):=yb (yu H.o.size F.o.size)
               go_wp2_with (first|(refine yj rfl 26 _ rfl b (o+i*11+5) rfl [iV E.op,iV E.n,iV E.u,.string E.rn,iV E.ri,.slice a' E.args.length p'] _ be.o qP rfl (by kernel_rfl) ?_)|(at_builtin;refine Bb (w.heap.size+1) rfl _ _ rfl u3 rows rfl I.o (wr.heap.size) 1 1 [[iV E.op,iV E.n,iV E.u,.string E.rn,iV E.ri,.slice a' E.args.length p']] #[iV E.op,iV E.n,iV E.u,.string E.rn,iV E.ri,.slice a' E.args.length p'] rfl rfl J.o rfl (by simp[Value.oneCell']) rfl K.o r.o ?_;intro au n5 c5 w5 y C;have ac:=yb y;have ab:=yb (E7 aa.o r.o I.o C);have ad:Hid ((w.heap.size+1)<=w5.heap.size):=yb (yu r.o C.size);have aq:=yb C;clear y C))
               exact ⟨⟨i+1,by omega,by push_cast;rfl,yb ⟨ab.o,ad.o,_,ac.o,by rw[t.o];exact M.o.append ⟨bh.o,trivial⟩⟩⟩,by simp[intOf];omega⟩
              ·obtain rfl:i=L.duties.n:=by omega
               have Z:decide ((L.duties.n:Int) < (L.duties.n:Int))=false:=by simp
               have P:Hid (Km (w.heap.size+1) N w0 (JI x++x.duties.flatMap (fun d=> [d.due])) wr u3):=yb (by
                have h:=H.o
                rw[ae.o.duties,yS] at h
                exact h)
               go_wp2
               go_ret
               refine ⟨_,rfl,⟨d2.o.trans (P.o.below.mono (by have:=db.o;omega)),by have:=P.o.size;omega,?_⟩⟩
               obtain ⟨rows,G,A⟩:=P.o.own
               exact ⟨rows,T5 G (by omega),AD.mono (fun cs e hE=>hE.same (fun _ h=>h) (fun b hb=>(d2.o.block b (di.o b hb)).symm)) A⟩
end Go.Proofs.YtjofgpfocadomaaGreatDoor
