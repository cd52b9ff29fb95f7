/- Parts of the proof, in short words: Zp Aa Ab Ac Ad Ae Af Bs -/
import Derived.Test.YtghepahgkcigpaaRg0
import Derived.Test.YtghepahgkcigpaaRg12
import Derived.Test.YtghepahgkcigpaaRg10
import Derived.Deep.CutBlock
import Derived.Test.YtghepahgkcigpaaRg8
set_option maxRecDepth 100000
set_option maxHeartbeats 64000000
set_option linter.unusedSimpArgs false
namespace Go.Proofs.Ytghepahgkcigpaa
open Go.RowKit
structure Pl where
 kind:Int
 name:ByteArray
 a:Rf
 b:Rf
 n:Int
 is:Bool
def Jn(p:Pl):LV:=[.int .i64 p.kind,.string p.name,.string p.a.name,.int .i64 p.a.n,.string p.b.name,.int .i64 p.b.n,.int .i64 p.n,.bool p.is]
def GJ:Rf:=⟨⟨#[]⟩,0⟩
def It(d:Dx):List Pl:=[⟨2,d.name,GJ,GJ,0,false⟩]
def Fy(d:BY):List Pl:=[⟨3,d.name,GJ,GJ,0,false⟩]
def DU(d:Ax):List Pl:=[⟨4,d.name,d.frm,GJ,0,false⟩]
def Fz(d:BL):List Pl:=[⟨5,d.name,d.on,d.crop,0,d.river⟩]
def Gc(k:Bt):List Pl:=[⟨7,⟨#[]⟩,k.farm,GJ,0,false⟩]
def Iu(d:B7):List Pl:=[⟨6,d.name,d.on,GJ,d.rank,false⟩]++d.turns.flatMap Gc
def DV(d:AG):List Pl:=[⟨8,d.name,d.farm,d.reach,d.rank,false⟩,⟨9,⟨#[]⟩,GJ,GJ,d.kind,false⟩]
def FA(d:Ce):List Pl:=[⟨10,d.name,d.farm,d.reach,0,false⟩]
def Qp(x:An):List Pl:=[⟨1,x.name,GJ,GJ,0,false⟩]
def QE(x:An):List Pl:=Qp x++x.lets.flatMap It
def QF(x:An):List Pl:=QE x++x.crops.flatMap Fy
def QG(x:An):List Pl:=QF x++x.reaches.flatMap DU
def QH(x:An):List Pl:=QG x++x.farms.flatMap Fz
def QI(x:An):List Pl:=QH x++x.rots.flatMap Iu
def QJ(x:An):List Pl:=QI x++x.rights.flatMap DV
def Ck(x:An):List Pl:=QJ x++x.duties.flatMap FA
structure UE (x:An):Prop where
 p1:(Qp x).length<=1
 p2:(QE x).length<=101
 p3:(QF x).length<=201
 p4:(QG x).length<=301
 p5:(QH x).length<=401
 p6:(QI x).length<=5371
 p7:(QJ x).length<=5971
 p8:(Ck x).length<=6271
theorem NO{d:B7}(h:d.turns.length<=70):(Iu d).length<=71:=by
 have h1:(d.turns.flatMap Gc).length<=d.turns.length*1:=AH fun _ _=>by simp[Gc]
 simp only[Iu,ym,yE,yI]
 omega
theorem Gs{x:An}(h:Fw x):UE x:=by
 have h1:=h.lets;have h2:=h.crops;have h3:=h.reaches;have h4:=h.farms;have h5:=h.rots;have h6:=h.rights;have g:=h.duties
 have e1:(x.lets.flatMap It).length<=x.lets.length*1:=AH fun _ _=>by simp[It]
 have e2:(x.crops.flatMap Fy).length<=x.crops.length*1:=AH fun _ _=>by simp[Fy]
 have b:(x.reaches.flatMap DU).length<=x.reaches.length*1:=AH fun _ _=>by simp[DU]
 have a:(x.farms.flatMap Fz).length<=x.farms.length*1:=AH fun _ _=>by simp[Fz]
 have e:(x.rots.flatMap Iu).length<=x.rots.length*71:=AH fun d hd=>NO (h.turns d hd)
 have f:(x.rights.flatMap DV).length<=x.rights.length*2:=AH fun _ _=>by simp[DV]
 have c:(x.duties.flatMap FA).length<=x.duties.length*1:=AH fun _ _=>by simp[FA]
 refine ⟨?_,?_,?_,?_,?_,?_,?_,?_⟩<;>simp only[Ck,QJ,QI,QH,QG,QF,QE,Qp,ym,yE,yI]<;>omega
def EA(B:Nat)(w:World)(v:Value)(l:List Pl):Prop:=w.ownsRow B 125 8 v l.length (l.flatMap Jn)
theorem EA.up{B:Nat}{w w':World}{v:Value}{l:List Pl}(h:EA B w v l)(hb:Below w.heap.size w w'):EA B w' v l:=by
 obtain ⟨h1,h2⟩:=h
 refine ⟨h1,h2.imp id ?_⟩
 rintro ⟨g,cap,a,h3,h4,h5,h6⟩
 exact ⟨g,cap,a,h3,h4,(hb.block g (yf.1 h5).1).trans h5,h6⟩
theorem EC{B:Nat}{c w w':World}{v:Value}{l:List Pl}(h:Below B c w)(i:B<=w.heap.size)(f:EA B w v l)(a:w.grownBy w' v.ownBlock):Below B c w':=by
 refine h.trans ⟨a.os,a.tape,a.output,a.size,fun b hb=>a.block b (by omega) (fun e=>?_)⟩
 rcases f.2 with ⟨rfl,_⟩|⟨g,cap,d,rfl,h4,_⟩
 ·cases e
 ·simp only[Value.ownBlock,yV] at e
  omega
theorem Iv(l:List Pl):(l.flatMap Jn).length=l.length*8∧∀u∈l.flatMap Jn,u.oneCell'=true:=by
 induction l with
 |nil=>simp
 |cons p r ih=>
  refine ⟨by simp only[zp,ym,ih.1,yE];simp[Jn];omega,fun u a=>?_⟩
  rw[zp] at a
  rcases yo.1 a with a|a
  ·simp[Jn] at a
   rcases a with h|h|h|h|h|h|h|h<;>rw[h]<;>rfl
  ·exact ih.2 u a
theorem BK{ops:Array Oper}{rest:List Oper}{o:Oper}{a:Act}{Q:QT}{W:World}(B:Nat)(q:o.guard=none)(s x:Operand)(M:o.op=.call {callee:=.builtin .append,args:=#[s,x],argTypes:=#[122,122]})
 (v:Value)(l:List Pl)(hs:a.eval s=v)(p:EA B W v l)(g m c:Nat)(d:List Pl)(F:a.eval x=.slice (some ⟨g,0,none⟩) m c)(J:m=d.length)(L:W.heap[g]?=some (.cells (d.flatMap Jn).toArray 125 (0,0)))
 (w:l.length+d.length<=1000000)(k:B<=W.heap.size)
 (h:∀(y:Option Addr) (n c:Nat) w',EA B w' (.slice y n c) (l++d)->W.grownBy w' v.ownBlock->wpList Try.prog ops Q rest (a.put o.dst (.slice y n c)) w'):wpList Try.prog ops Q (o::rest) a W:=by
 subst J
 refine yF q fun K E=>?_
 have h0:((Try.prog.info? 125).bind fun i=>i.zero.map fun z=>(i.size,z.cells.size,i.bytes))=some (8,8,88):=by kernel_rfl
 cases f:Try.prog.info? 125 with
 |none=>rw[f] at h0;cases h0
 |some i0=>
  rw[f] at h0
  cases t:i0.zero with
  |none=>simp[t] at h0
  |some z=>
  simp only[t,xE,xL,yV,zq] at h0
  obtain ⟨C,D,I⟩:=h0
  have e:∀j u,(d.flatMap Jn)[j]?=some u->W.cell? (((aV g 0):Addr).add j)=some u:=fun j u H=>by
   rw[zy]
   simp only[World.cell?,L]
   simpa using H
  refine qg W s x 122 M B 125 i0 z 8 88 qj f t C I D (by decide) v l.length _ hs p (aV g 0) d.length c (d.flatMap Jn) F (Iv d).1 e (Iv d).2 (by unfold maxLen;omega) (by omega) k ?_
  intro v' w' b r _
  obtain ⟨va,G,A,rfl⟩:=Cz b
  exact E _ _ (h va G A w' (by unfold EA;rw[ym,zB];exact b) r)
structure Ps (w:World) (cs:List Value) (W:World) (v:Value) (l:List Pl):Prop where
 below:Below w.heap.size w W
 box:W.heap[w.heap.size]?=some (.cells cs.toArray 35 (0,0))
 own:EA (w.heap.size+1) W v l
 size:w.heap.size+1<=W.heap.size
theorem Ps.cell{w W:World}{cs:LV}{v:Value}{l:List Pl}{p q:LV}{u:Value}(h:Ps w cs W v l)(hc:cs=p++(u::q)){o:Nat}(a:p.length=o):W.cell? ⟨w.heap.size,o,none⟩=some u:=by
 have h1:=Ay h.box
 rw[hc] at h1
 have h2:=AK (p:=p) (c:=[u]) (q:=q) h1
 rw[a,yA] at h2
 exact Cp h2
theorem Ps.next{w W W':World}{cs:LV}{v v':Value}{l a:List Pl}(h:Ps w cs W v l)(hb:Below (w.heap.size+1) W W')(b:EA (w.heap.size+1) W' v' (l++a)):Ps w cs W' v' (l++a):=
 ⟨h.below.trans (hb.mono (by omega)),(hb.block _ (by omega)).trans h.box,b,yr h.size hb.size⟩
def Gt(w:World)(l:List Pl)(e:Ending)(w':World):Prop:=∃v,e=.returned v∧EA w.heap.size w' v l∧Below w.heap.size w w'
theorem Mt{W:World}{b o:Nat}{p q:LV}{u:Value}(h:W.rangeAt b o (p++(u::q))):W.cell? ⟨b,o+p.length,none⟩=some u:=Cp (AK (p:=p) (c:=[u]) (q:=q) h)
structure BX (F:Nat->Prop) (C:Nat) (W W':World):Prop where
 os:W'.os=W.os
 tape:W'.tape=W.tape
 output:W'.output=W.output
 size:W.heap.size<=W'.heap.size
 block:∀k,k < C->¬ F k->W'.heap[k]?=W.heap[k]?
section
variable{F G:NP}{C C':Nat}{W V U:World}{c:LV}{t:TypeId}{b:Nat}{o:Obj}
theorem BX.refl(F:NP)(C:Nat)(W:World):BX F C W W:=⟨rfl,rfl,rfl,ye _,fun _ _ _=>rfl⟩
theorem BX.trans(h:BX F C W V)(k:BX F C V U):BX F C W U:=⟨k.os.trans h.os,k.tape.trans h.tape,k.output.trans h.output,yr h.size k.size,fun i hi a=>(k.block i hi a).trans (h.block i hi a)⟩
theorem BX.mono(h:BX F C W V)(a:C'<=C):BX F C' W V:=⟨h.os,h.tape,h.output,h.size,fun i hi=>h.block i (yp hi a)⟩
theorem BX.of(h:Below C W V):BX F C W V:=⟨h.os,h.tape,h.output,h.size,fun i hi _=>h.block i hi⟩
theorem BX.wrote(h:BX F C W V)(a:AF V U b c t)(hb:C<=b):BX F C W U:=⟨a.os.trans h.os,a.tape.trans h.tape,a.output.trans h.output,by rw[a.size];exact h.size,fun i hi d=>(a.block i (by omega)).trans (h.block i hi d)⟩
theorem BX.alloc(h:BX F C W V)(a:C<=V.heap.size)(o:Obj):BX F C W (V.alloc o):=h.trans (.of ((yg _ _).alloc a _))
theorem BX.drew(h:BX F C W V):BX F C W V.drew:=⟨h.os,h.tape,h.output,h.size,h.block⟩
theorem BX.flux(h:BX F C W V)(e:W.heap.size<=C)(b:∀k,F k->G k):Bj G W V:=⟨h.size,fun k d c=>h.block k (by omega) (fun a=>c (b k a))⟩
end
structure WX (F:Nat->Prop) (W W':World) (b:Nat) (c:List Value) (t:TypeId):Prop where
 os:W'.os=W.os
 tape:W'.tape=W.tape
 output:W'.output=W.output
 size:W'.heap.size=W.heap.size
 row:W'.heap[b]?=some (.cells c.toArray t (0,0))
 block:∀k,k≠b->¬ F k->W'.heap[k]?=W.heap[k]?
section
variable{F G:NP}{C:Nat}{W V U:World}{c:LV}{t:TypeId}{b:Nat}
theorem WX.bx(h:WX F V U b c t)(k:BX F C W V)(hb:C<=b):BX F C W U:=⟨h.os.trans k.os,h.tape.trans k.tape,h.output.trans k.output,by rw[h.size];exact k.size,fun i hi a=>(h.block i (by omega) a).trans (k.block i hi a)⟩
theorem WX.flux(h:WX F W V b c t)(f:∀k,F k->G k)(hb:G b):Bj G W V:=⟨by rw[h.size];exact ye _,fun k _ a=>h.block k (fun e=>a (e▸hb)) (fun d=>a (f k d))⟩
end
structure Jo (id:Nat) (caps:Array Value) (F:Nat->Prop) (g:Int->Rf->Rf) (q:Int->Rf->Bool) (J:Bool->World->Prop):Prop where
 stab:∀b W W',J b W->(∀k,F k->W'.heap[k]?=W.heap[k]?)->W.heap.size<=W'.heap.size->J b W'
 lt:∀b W,J b W->∀k,F k->k < W.heap.size
 enter:∀args w,(callFunc id args).run Try.prog w=.ok (.enter id args) w
 name:∀c r,r.name.size<=maxLen->(g c r).name.size<=maxLen
 call:∀(b:Bool) (W:World) (c:Int) (B o:Nat) (p:List Value) (r:Rf) (s:List Value) (t:TypeId),J b W->W.heap[B]?=some (.cells (p++(Ah r++s)).toArray t (0,0))->p.length=o->¬ F B->r.name.size<=maxLen->0<=c->c<=3->
  Calls Try.prog id (#[.int .i64 c,.pointer (some ⟨B,o,none⟩)]++caps) W fun e W'=>e=.returned (.tuple #[])∧J (b&&q c r) W'∧WX F W W' B (p++(Ah (g c r)++s)) t
mutual
def AM(g:Int->Rf->Rf):Ex->Ex
 |.mk op n u rn ri args=>.mk op n u (if op=2 then (g 0 ⟨rn,ri⟩).name else rn) (if op=2 then (g 0 ⟨rn,ri⟩).n else ri) (MB g args)
def MB(g:Int->Rf->Rf):List Ex->List Ex
 |[]=> []
 |e::r=>AM g e::MB g r
end
mutual
def AV(q:Int->Rf->Bool):Ex->Bool
 |.mk op _ _ rn ri args=>(if op=2 then q 0 ⟨rn,ri⟩ else true)&&S6 q args
def S6(q:Int->Rf->Bool):List Ex->Bool
 |[]=>true
 |e::r=>AV q e&&S6 q r
end
theorem NX(g:Int->Rf->Rf):∀l,MB g l=l.map (AM g)
 |[]=>by rw[MB];rfl
 |e::r=>by rw[MB,NX g r];rfl
theorem NY(q:Int->Rf->Bool):∀l,S6 q l=l.all (AV q)
 |[]=>by rw[S6];rfl
 |e::r=>by rw[S6,NY q r];rfl
def UA(F G:NP)(J:Bool->World->Prop)(b:Bool)(e1:Ex)(w:World)(x:Ending)(w':World):Prop:=
 ∃a:LV,x=.returned (.agg a.toArray)∧AP (GF G w') w' e1 a∧J b w'∧BX F w.heap.size w w'
def SO(N:NP)(w:World)(cs:LV)(d:Ex):Prop:=AP N w d cs
theorem KA:GC SO:=fun _ _ _ _ _ _ a hb h=>AP.same a hb h
structure EB (F:Nat->Prop) (w:World) (row:List Value) (wr:World):Prop where
 bx:BX F w.heap.size w wr
 box:wr.heap[w.heap.size]?=some (.cells row.toArray 26 (0,0))
 res:wr.heap[w.heap.size+1]?=some (.cells [Value.int .i64 0,.int .i64 0,.int .i64 0,.string {data:=#[]},.int .i64 0,.slice none 0 0].toArray 26 (0,0))
section
variable{F:NP}{w wr W:World}{row:LV}
theorem EB.lt(h:EB F w row wr):w.heap.size+2<=wr.heap.size:=(yf.1 h.res).1
theorem EB.up(h:EB F w row wr)(a:∀k,F k->k < w.heap.size){C:Nat}(b:w.heap.size+2<=C)(hb:BX F C wr W):EB F w row W:=
 ⟨h.bx.trans (hb.mono (by omega)),(hb.block _ (by omega) (fun k=>xA _ (a _ k))).trans h.box,(hb.block _ (by omega) (fun k=>by have:=a _ k;omega)).trans h.res⟩
theorem EB.rng(h:EB F w row wr){b o:Nat}{c:LV}(a:w.rangeAt b o c)(hb:b < w.heap.size)(d:¬ F b):wr.rangeAt b o c:=A2 a (h.bx.block b hb d)
end
theorem SP{N:NP}{W:World}{h:Av}{ds:List Ex}(k:Az N W 6 (SO N W) h ds):Db N W h.a 0 ds:=by
 refine Pa fun i hi=>?_
 obtain ⟨b,o,cs,h1,h2,h3,h4,h5⟩:=k.2.2 i hi
 exact ⟨b,o,cs,h1,h2,by simpa using h4,h5⟩
theorem H2{fn:Func}{t:Tmp}{ty:TypeId}{R:Ending->World->Prop}{tm:Array Value}{W:World}{b:Nat}{c:LV}{d:TypeDesc}{a:TypeId}(h:fn.results=#[.cell t ty])(e:tm.getD t undef=.pointer (some ⟨b,0,none⟩))(g:W.heap[b]?=some (.cells c.toArray a (0,0)))
 (i:Try.prog.underlying ty=some d)(hd:d.isRow=true)(hi:(Try.prog.info? ty).map (·.size)=some c.length)(f:R (.returned (.agg c.toArray)) W):bodyPost Try.prog fn R .ret {tmps:=tm,defers:=[]} W:=by
 refine xo ?_ rfl f
 have h2:(loadVar ty (aV b 0)).run Try.prog W=.ok (.agg c.toArray) W:=xX _ b 0 ty c d (Ay g) i hd hi
 rw[yG] at e
 simp[results,h,e,asAddr,h2]
def U9(F G:NP)(g:Int->Rf->Rf)(q:Int->Rf->Bool)(J:Bool->World->Prop)(b:Bool)(w:World)(row:LV)(args:List Ex)(i:Nat)(v:Value)(wr:World):Prop:=
 ∃a,EB F w row wr∧J a wr∧a=(b&&(args.take i).all (AV q))∧DA SO 26 6 (w.heap.size+2) G [w.heap.size,w.heap.size+1] wr v ((args.take i).map (AM g))
def UB(id:Nat)(caps:Array Value)(F:NP)(g:Int->Rf->Rf)(q:Int->Rf->Bool)(J:Bool->World->Prop)(e:Ex):Prop:=∀(G:NP) (b:Bool) (w:World) (cs:LV),Ba e->J b w->AP (GF G w) w e cs->(∀k,F k->G k)->(∀k,G k->k < w.heap.size)->
 Calls Try.prog 65 #[.agg cs.toArray,.func (.func id) #[] caps] w (UA F G J (b&&AV q e) (AM g e) w)
theorem LU{id:Nat}{caps:Array Value}{F:NP}{g:Int->Rf->Rf}{q:Int->Rf->Bool}{J:Bool->World->Prop}(hc:Jo id caps F g q J){op nn u ri:Int}{rn:ByteArray}{args:List Ex}{a:Option Addr}{m cap:Nat}{G:NP}{b:Bool}{w V:World}
 {u0 u3 u5 u6 u7 u8 u9 ch bu co bn cj ba b5 c5 c4 cf bz bs c3 c7 bd ce bk bh cg b7 bw:Value}(hm:m=args.length)(hl:args.length<=100000)(a2:Er args)(ac:rn.size<=maxLen)(Y:Db (GF G w) w a 0 args)(Z:∀k,F k->G k)(hG:∀k,G k->k < w.heap.size)
 (ih:∀e∈args,UB id caps F g q J e)
 (hE:EB F w [.int .i64 op,.int .i64 nn,.int .i64 u,.string rn,.int .i64 ri,.slice a m cap] V)(hJ:J b V):
  Code.wp Try.prog (CP 2 (Try.f65.body.getD .skip)) (bodyPost Try.prog Try.f65 (UA F G J (b&&args.all (AV q)) (.mk op nn u rn ri (args.map (AM g))) w)) {tmps:=#[u0,.func (.func id) #[] caps,.pointer (some ⟨w.heap.size,0,none⟩),u3,.pointer (some ⟨w.heap.size+1,0,none⟩),u5,u6,u7,u8,u9,ch,bu,co,bn,cj,ba,b5,c5,c4,cf,bz,bs,c3,c7,bd,ce,bk,bh,cg,b7,bw],defers:=[]} V:=by
 obtain ⟨row,O⟩:∃r:LV,r=[iV op,iV nn,iV u,.string rn,iV ri,.slice a m cap]:=⟨_,rfl⟩
 rw[<-O] at hE
 have b8:=yb O
 have HM:=yb hm
 have HL:=yb hl
 have c6:=yb a2
 have cn:=yb ac
 have aq:=yb Y
 have L:=yb Z
 have HG:=yb hG
 have IH:=yb ih
 have l:=yb hE
 have HC:=yb hc
 have HJ:=yb hJ
 have s:Hid (∀k,F k->k < w.heap.size):=yb (fun k c=>hG k (Z k c))
 have HN:Hid (m<=140737488355328):=yb (by omega)
 have cb:V.cell? (aV w.heap.size 5)=some (.slice a m cap):=by simp[World.cell?,hE.box,O]
 clear O hm hl a2 ac Y Z hG ih hE hc hJ
 refine Ag fun K hK=>?_
 go_wp2
 refine hK.o _ _ ?_
 clear hK K
 obtain ⟨I,hI⟩:∃I:Nat->Value->World->Prop,I=U9 F G g q J b w row args:=⟨_,rfl⟩
 have HI:=yb hI
 have av:Hid (I 0 (.slice none 0 0) V):=yb (by rw[hI];exact ⟨b,l.o,HJ.o,by simp,by simpa using DQ⟩)
 clear hI l HJ
 refine Ag fun K hK=>?_
 go_wp2
 go_loopw [5,17] (fun v5 iv wr=>∃i:Nat,iv=iV i∧i<=m∧Hid (I i v5 wr)) (fun _ iv _=>m - (intOf iv).toNat)
 case atStart=>exact ⟨0,rfl,yz _,av⟩
 case round=>
  clear av
  obtain ⟨i,rfl,hi,ak⟩:=hrel
  obtain ⟨bb,hE,hJ,ax,a1⟩:U9 F G g q J b w row args i u5 wr:=by have h:=ak.o;rw[HI.o] at h;exact h
  obtain ⟨va,S,H,rfl⟩:=a1.slice
  have l:=yb hE;have HJ:=yb hJ;have HB:=yb ax;have f:=yb a1
  clear ak hE hJ ax a1
  have cp:m<=140737488355328:=HN.o
  by_cases bt:i < m
  ·have y:i < args.length:=by rw[<-HM.o];exact bt
   have bp:(i:Int) < (m:Int):=by omega
   obtain ⟨bq,oq,ct,he,P,a0,M⟩:=DJ aq.o i y
   obtain rfl:a=some (aV bq oq):=he
   rw[yA] at a0
   have b3:Hid ((b&&(args.take (i+1)).all (AV q))=(bb&&AV q args[i])):=yb (by
    rw[yq y,zh,ze,zu,yT,<-zc,<-HB.o])
   have ag:Hid ((args.take (i+1)).map (AM g)=(args.take i).map (AM g)++[AM g args[i]]):=yb (by rw[yq y,zb];rfl)
   have cl:Hid (i+1<=1000000):=yb (by have:=HL.o;have:=HM.o;omega)
   have au:Hid (Ba args[i]):=yb (IK c6.o i y)
   have af:=yb (IH.o args[i] (yy y))
   have bm:Hid (((args.take i).map (AM g)).length=i):=yb (by simp;omega)
   generalize hD:args[i]=D at M b3 ag au af
   clear hD
   have ab:=yb M
   have U:Hid (ct.length=6):=yb M.len
   have bo:Hid (wr.rangeAt bq (oq+i*6) ct):=yb (l.o.rng a0 P.2 (fun k=>P.1 (L.o _ k)))
   have cu:Hid (bq < wr.heap.size):=yb (yp P.2 l.o.bx.size)
   clear a0 M P y
   go_upto_region 7 with (first
    |(refine yj rfl 26 _ rfl bq (oq+i*6) rfl ct _ bo.o qq rfl (BV U.o) ?_)
    |(refine Aj rfl 26 _ _ rfl wr.heap.size rfl ct rfl (World.alloc_heap_new _ _) (by rw[yB,U.o];rfl) (BV U.o) (Ai ab.o) ?_;intro x1 al;have az:=yb al;clear al))
   have z:Hid (Below wr.heap.size wr x1):=yb (az.o.below ((yg _ _).alloc (ye _) _) (ye _))
   have bv:Hid (J bb x1):=yb (HC.o.stab _ _ _ HJ.o (fun k c=>z.o.block k (by have:=s.o k c;have:=l.o.lt;omega)) z.o.size)
   have ca:Hid (∀(x:World),BX F w.heap.size w x->Bj G w x):=yb (fun x h=>h.flux (ye _) L.o)
   have ci:Hid (AP (GF (FL G ([w.heap.size,w.heap.size+1]++ob (.slice va S H))) x1) x1 D ct):=yb (ab.o.flux (ca.o _ (l.o.bx.trans (.of (z.o.mono l.o.bx.size)))) (fun k c=>c.imp (fun h=>h) (fun h=>by
    rcases yo.1 h with h|h
    ·simp at h;omega
    ·have:=(f.o.lt k h).1;omega)))
   have ap:=yb (af.o (FL G ([w.heap.size,w.heap.size+1]++ob (.slice va S H))) bb x1 ct au.o bv.o ci.o (fun k c=>.inl (L.o k c)) (fun k c=>by
    have h1:=l.o.lt;have h2:=z.o.size
    rcases c with c|c
    ·have:=HG.o k c;omega
    ·rcases yo.1 c with h|h
     ·simp at h;omega
     ·have:=(f.o.lt k h).2;omega))
   go_upto_region 8 with (first
    |(refine yj rfl 26 _ rfl wr.heap.size 0 rfl ct _ (Ay az.o.row) qq rfl (BV U.o) ?_)
    |(go_at_call 65;refine ap.o.mono ?_;rintro e x2 ⟨res,rfl,a7,b4,ar⟩;have B:=yb a7;have cm:=yb b4;have W:Hid (BX F wr.heap.size wr x2):=yb ((BX.of z.o).trans (ar.mono z.o.size));clear a7 b4 ar
      have aj:Hid (∀k∈ob (.slice va S H),¬ F k∧w.heap.size+2<=k∧k < wr.heap.size):=yb (fun k c=>⟨fun h=>by have:=s.o k h;have:=(f.o.lt k c).1;omega,f.o.lt k c⟩)
      obtain ⟨rows,R,ao,E⟩:=(f.o.up KA (W.o.flux (ye _) (fun k c=>.inl (L.o k c))) (fun k c=>W.o.block k (aj.o k c).2.2 (aj.o k c).1) (fun _ h=>.inl h)).own
      have b9:=yb R;have c8:=yb ao;have ay:=yb E
      have X:Hid (w.heap.size+2<=x2.heap.size):=yb (by have:=W.o.size;have:=l.o.lt;omega)
      have a6:Hid ((x2.alloc (.cells res.toArray 26)).ownsRow (w.heap.size+2) 26 6 (.slice va S H) rows.length rows.flatten):=yb (BA R fun k c=>((yg _ _).alloc (ye _) _).block k (F9 R k c).2)
      have aa:Hid (rows.length+1<=1000000):=yb (by rw[At.length E,bm.o];exact cl.o)
      have c9:Hid (w.heap.size+2<=(x2.alloc (.cells res.toArray 26)).heap.size):=yb (by have:=X.o;simp;omega)
      clear R ao E)
    |(refine BN rfl 24 26 _ rfl res rfl 6 qp (by kernel_rfl) B.o.len (by omega) (by omega) ?_)
    |(at_builtin;refine Bd qp rfl _ _ rfl 6 (by kernel_rfl) (by omega) (w.heap.size+2) (.slice va S H) rows.length rows.flatten rfl a6.o x2.heap.size 1 res rfl (World.alloc_heap_new _ _) B.o.len (Ai B.o) aa.o c9.o ?_;intro vx x8 C am ad;obtain ⟨xa,xn,xc,rfl⟩:=Cz C;have N:=yb (CD KA ay.o c8.o b9.o B.o B.o.len C am ad X.o);clear C am ad))
   go_wp2
   have ai:Hid (BX F (w.heap.size+2) wr x8):=yb ((W.o.mono l.o.lt).trans (.of N.o.below))
   have bg:Hid (I (i+1) (.slice xa xn xc) x8):=yb (by
    rw[HI.o]
    refine ⟨bb&&AV q D,l.o.up s.o (ye _) ai.o,HC.o.stab _ _ _ cm.o (fun k c=>N.o.below.block k (by have:=s.o k c;omega)) N.o.flux.1,b3.o.symm,?_⟩
    rw[ag.o];exact N.o.grow)
   exact ⟨⟨i+1,by push_cast;rfl,by omega,bg⟩,by simp[intOf];omega⟩
  ·obtain rfl:i=m:=by omega
   have bp:decide ((i:Int) < (i:Int))=false:=by simp
   have HQ:Hid (bb=(b&&args.all (AV q))):=yb (by rw[HB.o,HM.o,yw])
   have a8:Hid (DA SO 26 6 (w.heap.size+2) G [w.heap.size,w.heap.size+1] wr (.slice va S H) (args.map (AM g))):=yb (by have h:=f.o;rw[HM.o,yw] at h;exact h)
   clear f HB
   go_wp2
   refine hK.o _ _ ?_
   obtain ⟨d,Q⟩:∃r:LV,r=[iV op,iV nn,iV u,.string rn,iV ri,.slice va S H]:=⟨_,rfl⟩
   have aw:=yb Q
   have T:Hid (d.length=6):=yb (by rw[Q];rfl)
   have cc:Hid (∀v∈d,v.oneCell'=true):=yb (by rw[Q];simp[Value.oneCell'])
   have bj:Hid (wr.heap[w.heap.size]?=some (.cells ([iV op,iV nn,iV u,.string rn,iV ri]++(Value.slice a i cap::[])).toArray 26 (0,0))):=yb (by have h:=l.o.box;rw[b8.o] at h;exact h)
   clear Q
   go_wp2_with (first
    |(refine Ao rfl 24 _ _ rfl w.heap.size 5 rfl (.slice va S H) rfl rfl (p:=[iV op,iV nn,iV u,.string rn,iV ri]) (m:=.slice a i cap) (q:=[]) (t:=26) bj.o rfl (by kernel_rfl) rfl ?_;intro x5 ah;have j:Hid (AF wr x5 w.heap.size d 26):=yb (by rw[aw.o];exact ah);clear ah)
    |(refine yj rfl 26 _ rfl w.heap.size 0 rfl d _ (Ay j.o.row) qq rfl (BV T.o) ?_)
    |(refine Aj rfl 26 _ _ rfl (w.heap.size+1) rfl d rfl ((j.o.block _ (by omega)).trans l.o.res) (by rw[T.o];rfl) (BV T.o) cc.o ?_;intro x6 ae;have A:=yb ae;clear ae))
   refine H2 rfl rfl A.o.row qq rfl (by rw[T.o];kernel_rfl) ?_
   have bi:BX F w.heap.size w x6:=(l.o.bx.wrote j.o (ye _)).wrote A.o (Nat.le_succ _)
   have be:J bb x6:=HC.o.stab _ _ _ HJ.o (fun k c=>(A.o.block k (by have:=s.o k c;omega)).trans (j.o.block k (by have:=s.o k c;omega))) (by rw[A.o.size,j.o.size];exact ye _)
   refine ⟨d,rfl,?_,by rw[<-HQ.o];exact be,bi⟩
   rw[aw.o,AP]
   have cd:Bj (FL G [w.heap.size,w.heap.size+1]) wr x6:=(j.o.flux (.inr (by simp))).trans (A.o.flux (.inr (by simp)))
   have ck:∀k∈ob (.slice va S H),x6.heap[k]?=wr.heap[k]?:=fun k c=>by
    have h1:=(a8.o.lt k c).1
    exact (A.o.block k (by omega)).trans (j.o.block k (by omega))
   obtain ⟨h,he,an⟩:=a8.o.row KA cd ck (fun k c=>by have:=HG.o k c;omega) (by have:=HL.o;simp;omega)
   have hn:h.n=(args.map (AM g)).length:=an.1
   obtain ⟨ha,cr,cq⟩:=h
   simp only[Av.v,zX] at he
   obtain ⟨rfl,rfl,rfl⟩:=he
   simp only at hn
   subst hn
   exact ⟨va,H,rfl,by have:=HL.o;simp;omega,cn.o,SP an⟩
theorem B6{id:Nat}{caps:Array Value}{F:NP}{g:Int->Rf->Rf}{q:Int->Rf->Bool}{J:Bool->World->Prop}(hc:Jo id caps F g q J):∀e:Ex,UB id caps F g q J e:=by
 refine GK fun op I u rn ri args ih=>?_
 intro G b w cs hs H T l C
 rw[AP] at T
 obtain ⟨a,cap,rfl,hl,p,d⟩:=T
 rw[Ba] at hs
 rw[AV,AM,NX,NY]
 have r:∀k,F k->k < w.heap.size:=fun k A=>C k (l k A)
 by_cases h2:op=2
 ·subst h2
  rw[yx rfl,yx rfl,yx rfl,<-zc]
  obtain ⟨m,y⟩:∃m,m=args.length:=⟨_,rfl⟩
  rw[<-y]
  have D:=yb hs
  have O:=yb y
  have n:=yb d
  have N:=yb C
  have v:=yb l
  have S:=yb ih
  have s:=yb p
  have R:=yb H
  have t:=yb hc
  have j:=yb r
  clear d C l ih hl p H hc hs y r
  go_enter Try.func65,Try.ntmps65
  refine Ag fun Q i=>?_
  go_wp2
  refine i.o _ _ ?_
  clear i Q
  obtain ⟨w1,c⟩:∃w1,w1=((w.alloc (.cells #[iV 2,iV I,iV u,.string rn,iV ri,.slice a m cap] 26)).alloc (.cells qX 26)):=⟨_,rfl⟩
  rw[<-c]
  have f:=yb (TR c)
  clear c
  obtain ⟨c0,c1,c2,W,X,U⟩:=Qf f.o.box
  have x:Hid (J b w1):=yb (t.o.stab b w w1 R.o (fun k A=>f.o.below.block k (j.o k A)) f.o.below.size)
  have M:=yb (t.o.call b w1 0 w.heap.size 3 [iV 2,iV I,iV u] ⟨rn,ri⟩ [.slice a m cap] 26 x.o f.o.box rfl (fun h=>xA _ (j.o _ h)) s.o (by decide) (by decide))
  refine Ag fun K L=>?_
  go_wp2
  rw[t.o.enter,zR]
  refine M.o.mono ?_
  rintro e w2 ⟨rfl,E,B⟩
  have P:=yb E;have z:=yb B
  clear E B
  go_wp2
  refine L.o _ _ ?_
  exact LU t.o O.o D.o.1 D.o.2 (t.o.name 0 ⟨rn,ri⟩ s.o) n.o v.o N.o S.o ⟨z.o.bx (.of f.o.below) (ye _),z.o.row,(z.o.block _ (by omega) (fun h=>by have:=j.o _ h;omega)).trans f.o.res⟩ P.o
 ·have V:(op==2)=false:=by simpa using h2
  rw[yu h2,yu h2,yu h2,qi]
  obtain ⟨m,y⟩:∃m,m=args.length:=⟨_,rfl⟩
  rw[<-y]
  have D:=yb hs
  have O:=yb y
  have n:=yb d
  have N:=yb C
  have v:=yb l
  have S:=yb ih
  have s:=yb p
  have R:=yb H
  have t:=yb hc
  have j:=yb r
  clear d C l ih hl p H hc hs y r
  go_enter Try.func65,Try.ntmps65
  refine Ag fun Q i=>?_
  go_wp2
  refine i.o _ _ ?_
  clear i Q
  obtain ⟨w1,c⟩:∃w1,w1=((w.alloc (.cells #[iV op,iV I,iV u,.string rn,iV ri,.slice a m cap] 26)).alloc (.cells qX 26)):=⟨_,rfl⟩
  rw[<-c]
  have f:=yb (TR c)
  clear c
  obtain ⟨c0,c1,c2,W,X,U⟩:=Qf f.o.box
  have x:Hid (J b w1):=yb (t.o.stab b w w1 R.o (fun k A=>f.o.below.block k (j.o k A)) f.o.below.size)
  refine Ag fun K L=>?_
  go_wp2
  refine L.o _ _ ?_
  exact LU t.o O.o D.o.1 D.o.2 s.o n.o v.o N.o S.o ⟨.of f.o.below,f.o.box,f.o.res⟩ x.o
def J0(u:Nat->Value):Array Value:=((List.range 303).map u).toArray
theorem FB(u:Nat->Value):J0 u=#[u 0,u 1,u 2,u 3,u 4,u 5,u 6,u 7,u 8,u 9,u 10,u 11,u 12,u 13,u 14,u 15,u 16,u 17,u 18,u 19,u 20,u 21,u 22,u 23,u 24,u 25,u 26,u 27,u 28,u 29,u 30,u 31,u 32,u 33,u 34,u 35,u 36,u 37,u 38,u 39,u 40,u 41,u 42,u 43,u 44,u 45,u 46,u 47,u 48,u 49,u 50,u 51,u 52,u 53,u 54,u 55,u 56,u 57,u 58,u 59,u 60,u 61,u 62,u 63,u 64,u 65,u 66,u 67,u 68,u 69,u 70,u 71,u 72,u 73,u 74,u 75,u 76,u 77,u 78,u 79,u 80,u 81,u 82,u 83,u 84,u 85,u 86,u 87,u 88,u 89,u 90,u 91,u 92,u 93,u 94,u 95,u 96,u 97,u 98,u 99,u 100,u 101,u 102,u 103,u 104,u 105,u 106,u 107,u 108,u 109,u 110,u 111,u 112,u 113,u 114,u 115,u 116,u 117,u 118,u 119,u 120,u 121,u 122,u 123,u 124,u 125,u 126,u 127,u 128,u 129,u 130,u 131,u 132,u 133,u 134,u 135,u 136,u 137,u 138,u 139,u 140,u 141,u 142,u 143,u 144,u 145,u 146,u 147,u 148,u 149,u 150,u 151,u 152,u 153,u 154,u 155,u 156,u 157,u 158,u 159,u 160,u 161,u 162,u 163,u 164,u 165,u 166,u 167,u 168,u 169,u 170,u 171,u 172,u 173,u 174,u 175,u 176,u 177,u 178,u 179,u 180,u 181,u 182,u 183,u 184,u 185,u 186,u 187,u 188,u 189,u 190,u 191,u 192,u 193,u 194,u 195,u 196,u 197,u 198,u 199,u 200,u 201,u 202,u 203,u 204,u 205,u 206,u 207,u 208,u 209,u 210,u 211,u 212,u 213,u 214,u 215,u 216,u 217,u 218,u 219,u 220,u 221,u 222,u 223,u 224,u 225,u 226,u 227,u 228,u 229,u 230,u 231,u 232,u 233,u 234,u 235,u 236,u 237,u 238,u 239,u 240,u 241,u 242,u 243,u 244,u 245,u 246,u 247,u 248,u 249,u 250,u 251,u 252,u 253,u 254,u 255,u 256,u 257,u 258,u 259,u 260,u 261,u 262,u 263,u 264,u 265,u 266,u 267,u 268,u 269,u 270,u 271,u 272,u 273,u 274,u 275,u 276,u 277,u 278,u 279,u 280,u 281,u 282,u 283,u 284,u 285,u 286,u 287,u 288,u 289,u 290,u 291,u 292,u 293,u 294,u 295,u 296,u 297,u 298,u 299,u 300,u 301,u 302]:=by kernel_rfl
theorem FC{P:Array Value->Prop}{l:Array Value}(hs:l.size=303)(h:P (J0 fun i=>l.getD i undef)):P l:=by
 have e:(J0 fun i=>l.getD i undef)=l:=by
  refine Array.ext (by simp[J0,hs]) fun i h1 h2=>?_
  simp[J0,yG,h2]
 rwa [e] at h
structure UF (id:Nat) (caps:Array Value) (w:World) (u:Nat->Value):Prop where
 u1:u 1=.func (.func id) #[] caps
 u2:u 2=.pointer (some ⟨w.heap.size,0,none⟩)
 u4:u 4=.pointer (some ⟨w.heap.size+1,0,none⟩)
 u5:u 5=.pointer (some ⟨w.heap.size+2,0,none⟩)
theorem MD{N:NP}{w:World}{cs:LV}{d:Dx}(h:FP N w cs d):cs.length=7∧∀v∈cs,v.oneCell'=true:=by
 obtain ⟨_,c,rfl,g⟩:=h
 exact ⟨by simp[g.len],AI rfl (Ai g)⟩
theorem KB{N:NP}{w:World}{cs:LV}{d:BY}(h:Dq N w cs d):cs.length=7∧∀v∈cs,v.oneCell'=true:=by
 obtain ⟨_,c,rfl,g⟩:=h
 exact ⟨by simp[g.len],AI rfl (Ai g)⟩
theorem KC{N:NP}{w:World}{cs:LV}{d:Bt}(h:Dm N w cs d):cs.length=8∧∀v∈cs,v.oneCell'=true:=by
 obtain ⟨_,c,rfl,g⟩:=h
 exact ⟨by simp[A7,g.len],Ap (CV _) (Ai g)⟩
theorem PK{α:Type}{l:List α}{i:Nat}(h:i < l.length):l.zipIdx.take (i+1)=l.zipIdx.take i++[(l[i],i)]:=by
 rw[yq (by simpa using h)]
 simp
theorem S7{α:Type}{l:List α}:l.zipIdx.take l.length=l.zipIdx:=xN (by simp)
section
variable(g:Int->Rf->Rf)(q:Int->Rf->Bool)
def I7(d:Dx):Dx:=⟨d.name,AM g d.value⟩
def KD(d:Dx):Bool:=AV q d.value
def EN(d:BY):BY:=⟨d.name,AM g d.need⟩
def Gy(d:BY):Bool:=AV q d.need
def CM(i:Nat)(d:Ax):Ax:=⟨d.name,if i=0 then d.frm else g 2 d.frm,AM g d.delay,AM g d.cap,AM g d.bank,AM g d.siphon,AM g d.evap0,AM g d.evap1,AM g d.seep0,AM g d.seep1⟩
def Eg(i:Nat)(d:Ax):Bool:=(((((((((if i=0 then true else q 2 d.frm)&&AV q d.delay)&&AV q d.cap)&&AV q d.bank)&&AV q d.siphon)&&AV q d.evap0)&&AV q d.seep0)&&AV q d.evap1)&&AV q d.seep1)
def DH(d:BL):BL:=⟨d.name,g 2 d.on,d.river,AM g d.area,if d.river then d.crop else g 1 d.crop⟩
def FD(d:BL):Bool:=(q 2 d.on&&(if d.river then true else q 1 d.crop))&&AV q d.area
def FE(d:Bt):Bt:=⟨g 3 d.farm,AM g d.len⟩
def H3(d:Bt):Bool:=q 3 d.farm&&AV q d.len
def Ge(d:B7):B7:=⟨d.name,g 2 d.on,d.rank,AM g d.flow,AM g d.frm,AM g d.to,d.turns.map (FE g)⟩
def I8(d:B7):Bool:=(((q 2 d.on&&AV q d.flow)&&AV q d.frm)&&AV q d.to)&&d.turns.all (H3 q)
def Cx(d:AG):AG:=⟨d.kind,d.name,g 3 d.farm,if d.kind=1 then d.reach else g 2 d.reach,d.rank,AM g d.flow,AM g d.frm,AM g d.to,AM g d.every,AM g d.len⟩
def Dn(d:AG):Bool:=((((((q 3 d.farm&&(if d.kind=1 then true else q 2 d.reach))&&AV q d.flow)&&AV q d.frm)&&AV q d.to)&&AV q d.every)&&AV q d.len)
def Du(d:Ce):Ce:=⟨d.name,g 3 d.farm,g 2 d.reach,AM g d.due⟩
def ED(d:Ce):Bool:=(q 3 d.farm&&q 2 d.reach)&&AV q d.due
end
structure Sh (x:An):Prop where
 slim:I1 x
 season:Ba x.season
 cap:Ba x.cap
 start:Ba x.start
 lets:∀d∈x.lets,Ba d.value
 crops:∀d∈x.crops,Ba d.need
 reaches:∀d∈x.reaches,Ba d.delay∧Ba d.cap∧Ba d.bank∧Ba d.siphon∧Ba d.evap0∧Ba d.evap1∧Ba d.seep0∧Ba d.seep1
 farms:∀d∈x.farms,Ba d.area
 rots:∀d∈x.rots,(Ba d.flow∧Ba d.frm∧Ba d.to)∧d.turns.length<=100000∧∀t∈d.turns,Ba t.len
 rights:∀d∈x.rights,Ba d.flow∧Ba d.frm∧Ba d.to∧Ba d.every∧Ba d.len
 duties:∀d∈x.duties,Ba d.due
def MP(F G:NP)(J:Bool->World->Prop)(b:Bool)(y:An)(w:World)(e:Ending)(w':World):Prop:=
 ∃a:LV,e=.returned (.agg a.toArray)∧DT (GF G w') w' a y∧J b w'∧BX F w.heap.size w w'
structure MS (F:Nat->Prop) (w:World) (cs row:List Value) (W:World):Prop where
 bx:BX F w.heap.size w W
 s:W.heap[w.heap.size]?=some (.cells cs.toArray 35 (0,0))
 z:∃zr:List Value,zr.length=26∧W.heap[w.heap.size+1]?=some (.cells zr.toArray 35 (0,0))
 x:W.heap[w.heap.size+2]?=some (.cells row.toArray 35 (0,0))
section
variable{F:NP}{w W W':World}{cs row row':LV}{C:Nat}
theorem MS.lt(h:MS F w cs row W):w.heap.size+3<=W.heap.size:=(yf.1 h.x).1
theorem MS.up(h:MS F w cs row W)(c:∀k,F k->k < w.heap.size)(g:w.heap.size+3<=C)(hb:BX F C W W'):MS F w cs row W':=by
 have a:∀k,w.heap.size<=k->¬ F k:=fun k f h=>by have:=c k h;omega
 obtain ⟨d,b,e⟩:=h.z
 exact ⟨h.bx.trans (hb.mono (by omega)),(hb.block _ (by omega) (a _ (ye _))).trans h.s,⟨d,b,(hb.block _ (by omega) (a _ (by omega))).trans e⟩,(hb.block _ (by omega) (a _ (by omega))).trans h.x⟩
theorem MS.wrote(h:MS F w cs row W)(a:AF W W' (w.heap.size+2) row' 35):MS F w cs row' W':=by
 obtain ⟨c,b,d⟩:=h.z
 exact ⟨h.bx.wrote a (by omega),(a.block _ (by omega)).trans h.s,⟨c,b,(a.block _ (by omega)).trans d⟩,a.row⟩
theorem MS.cell{p q:LV}{v:Value}(h:MS F w cs row W)(hc:cs=p++(v::q)){o:Nat}(a:p.length=o):W.cell? ⟨w.heap.size,o,none⟩=some v:=by
 have h1:=Ay h.s
 rw[hc] at h1
 have h2:=AK (p:=p) (c:=[v]) (q:=q) h1
 rw[a,yA] at h2
 exact Cp h2
theorem MS.cellx{p q:LV}{v:Value}(h:MS F w cs row W)(hc:row=p++(v::q)){o:Nat}(a:p.length=o):W.cell? ⟨w.heap.size+2,o,none⟩=some v:=by
 have h1:=Ay h.x
 rw[hc] at h1
 have h2:=AK (p:=p) (c:=[v]) (q:=q) h1
 rw[a,yA] at h2
 exact Cp h2
end
structure Dl (k:Nat) (N:Nat->Prop) (W:World) (c0 c1 c2:List Value) (h0 h1 h2 h3 h4 h5 h6:Av) (y:An):Prop where
 name:y.name.size<=maxLen
 e0:AP N W y.season c0
 e1:AP N W y.cap c1
 e2:AP N W y.start c2
 lets:0 < k->Az N W 7 (FP N W) h0 y.lets
 crops:1 < k->Az N W 7 (Dq N W) h1 y.crops
 reaches:2 < k->Az N W 51 (CG N W) h2 y.reaches
 farms:3 < k->Az N W 12 (DE N W) h3 y.farms
 rots:4 < k->Az N W 23 (KW N W) h4 y.rots
 rights:5 < k->Az N W 37 (CH N W) h5 y.rights
 duties:6 < k->Az N W 11 (DF N W) h6 y.duties
section
variable{k:Nat}{F F':NP}{W W':World}{c0 c1 c2:LV}{h0 h1 h2 h3 h4 h5 h6:Av}{y:An}
theorem Dl.flux(h:Dl k (GF F W) W c0 c1 c2 h0 h1 h2 h3 h4 h5 h6 y)(c:Bj F W W')(a:∀b,F' b->F b∨W.heap.size<=b):Dl k (GF F' W') W' c0 c1 c2 h0 h1 h2 h3 h4 h5 h6 y:=
 ⟨h.name,h.e0.flux c a,h.e1.flux c a,h.e2.flux c a,fun k=>(h.lets k).flux G5 c a,fun k=>(h.crops k).flux EW c a,fun k=>(h.reaches k).flux Eb c a,fun k=>(h.farms k).flux EX c a,fun k=>(h.rots k).flux G6 c a,fun k=>(h.rights k).flux Ec c a,fun k=>(h.duties k).flux EY c a⟩
theorem Dl.res{N:NP}(h:Dl 7 N W c0 c1 c2 h0 h1 h2 h3 h4 h5 h6 y):DT N W (.string y.name::(c0++(c1++(c2++[h0.v,h1.v,h2.v,h3.v,h4.v,h5.v,h6.v])))) y:=
 SD ⟨h.name,h.e0,h.e1,h.e2,h.lets (by omega),h.crops (by omega),fun _=>h.reaches (by omega),fun _=>h.farms (by omega),fun _=>h.rots (by omega),fun _=>h.rights (by omega),fun _=>h.duties (by omega)⟩
end
theorem Qu{N:NP}{w:World}{L:Bh}{cs:LV}{x:An}(h:B8 N w L cs x):Az N w 23 (KW N w) L.rots x.rots:=by
 obtain ⟨h1,h2,h3⟩:=h.rots
 exact ⟨h1,h2,fun i hi=>by obtain ⟨b,o,cs,g1,d,e,c,a⟩:=h3 i hi;exact ⟨b,o,cs,g1,d,e,c,_,a⟩⟩
structure MI {δ:Type} (V:(Nat->Prop)->World->List Value->δ->Prop) (ty sz:Nat) (F G:Nat->Prop) (J:Bool->World->Prop) (b:Bool) (w:World) (cs P Q:List Value) (X:(Nat->Prop)->World->Prop) (qP:Nat->Bool) (mP:Nat->List δ) (i:Nat) (v:Value) (wr:World):Prop where
 ms:MS F w cs (P++(v::Q)) wr
 j:J (b&&qP i) wr
 got:X (GF (FL G ([w.heap.size,w.heap.size+1,w.heap.size+2]++ob v)) wr) wr
 grow:DA V ty sz (w.heap.size+3) G [w.heap.size,w.heap.size+1,w.heap.size+2] wr v (mP i)
structure TB (F:Nat->Prop) (wr:World) (ty:TypeId) (row:List Value) (X:World):Prop where
 bx:BX F wr.heap.size wr X
 row:X.heap[wr.heap.size]?=some (.cells row.toArray ty (0,0))
section
variable{F G:NP}{wr X X2 X3:World}{ty:TypeId}{row row':LV}{l:List Nat}{css:List LV}{es:List Ex}{o:Obj}
theorem TB.lt(h:TB F wr ty row X):wr.heap.size < X.heap.size:=(yf.1 h.row).1
theorem EE(a:AF (wr.alloc o) X wr.heap.size row ty):TB F wr ty row X:=⟨.of (AB a),a.row⟩
theorem TB.cb(h:TB F wr ty row X)(a:WX F X X2 wr.heap.size row' ty):TB F wr ty row' X2:=⟨a.bx h.bx (ye _),a.row⟩
theorem TB.call(h:TB F wr ty row X)(a:∀k,F k->k < wr.heap.size)(hb:BX F X.heap.size X X2):TB F wr ty row X2:=
 ⟨h.bx.trans (hb.mono h.bx.size),(hb.block _ h.lt (fun k=>xA _ (a _ k))).trans h.row⟩
theorem TB.wrote(h:TB F wr ty row X)(a:AF X X2 wr.heap.size row' ty):TB F wr ty row' X2:=⟨h.bx.wrote a (ye _),a.row⟩
theorem TB.part(h:TB F wr ty row X){p m q:LV}(b:row=p++(m++q)){off:Nat}(a:p.length=off):X.rangeAt wr.heap.size off m:=by
 have h1:=Ay h.row
 rw[b] at h1
 have:=AK h1
 rwa [a,yA] at this
theorem BE{W:World}{b:Nat}{fr:Nat × Nat}(h:W.heap[b]?=some (.cells row.toArray ty fr)){p m q:LV}(c:row=p++(m++q)){off:Nat}(a:p.length=off):W.rangeAt b off m:=by
 have h1:=Ay h
 rw[c] at h1
 have:=AK h1
 rwa [a,yA] at this
theorem TB.drew(h:TB F wr ty row X):TB F wr ty row X.drew:=⟨h.bx.drew,h.row⟩
theorem AE{op:Oper}{a:Act}{w:World}{K:Act->World->Prop}{Q:QT}(t':TypeId)(x y:Operand)(i:op.op=.store t' x y)
 (b o:Nat)(e:a.eval x=.pointer (some ⟨b,o,none⟩))(c:LV)(f:a.eval y=.agg c.toArray){p m q:LV}{t:TypeId}(hb:w.heap[b]?=some (.cells (p++(m++q)).toArray t (0,0)))(d:p.length=o)(g:m.length=c.length)
 (hi:(Try.prog.info? t').map (·.size)=some c.length)(h1:∀v∈c,v.oneCell'=true)
 (h:∀W',AF w W' b (p++(c++q)) t->K (a.put op.dst undef) W'):Oper.wp Try.prog op a w K Q:=by
 refine wp_store_mid t' x y i b o c.toArray e f (IQ hb (by simp;omega)) (by rw[yB];exact hi) (yU h1) ?_
 exact h _ (Eh b t c o w p m q hb d g)
theorem VE.cb(h:VE G l X css es)(a:WX F X X2 wr.heap.size row' ty)(b:∀k,F k->G k)(hl:wr.heap.size∈l):VE G l X2 css es:=h.up (a.flux (fun k c=>.inl (b k c)) (.inr hl)) (fun _ h=>.inl h)
theorem VE.bcall(h:VE G l X css es)(hb:BX F X.heap.size X X2)(a:∀k,F k->G k):VE G l X2 css es:=h.up (hb.flux (ye _) (fun k b=>.inl (a k b))) (fun _ h=>.inl h)
theorem VE.wrt(h:VE G l X css es)(a:AF X X2 wr.heap.size row' ty)(hl:wr.heap.size∈l):VE G l X2 css es:=h.up (a.flux (.inr hl)) (fun _ h=>.inl h)
end
theorem Uv{id:Nat}{caps:Array Value}{F G:NP}{J:Bool->World->Prop}{g:Int->Rf->Rf}{q:Int->Rf->Bool}{b:Bool}{w W:World}{cs:LV}{u:Nat->Value}{y:An}{c0 c1 c2:LV}{h0 h1 h2 h3 h4 h5 h6:Av}(hc:Jo id caps F g q J)(B:∀k,F k->k < w.heap.size)(d:UF id caps w u)
 (j:MS F w cs (.string y.name::(c0++(c1++(c2++[h0.v,h1.v,h2.v,h3.v,h4.v,h5.v,h6.v])))) W)(A:Dl 7 (GF (FL G [w.heap.size,w.heap.size+1,w.heap.size+2]) W) W c0 c1 c2 h0 h1 h2 h3 h4 h5 h6 y)(C:J b W):
  Code.wp Try.prog (CP 11 (Try.f17.body.getD .skip)) (bodyPost Try.prog Try.f17 (MP F G J b y w)) {tmps:=J0 u,defers:=[]} W:=by
 rw[FB,d.u1,d.u2,d.u4,d.u5]
 obtain ⟨row,t⟩:∃r:LV,r=.string y.name::(c0++(c1++(c2++[h0.v,h1.v,h2.v,h3.v,h4.v,h5.v,h6.v]))):=⟨_,rfl⟩
 have a:=yb A.res
 rw[<-t] at j a
 have l:=yb a.o.len
 have M:=yb a.o.one
 have D:=yb j
 have I:=yb hc
 have p:=yb B
 have K:=yb C
 obtain ⟨O,i,f⟩:=j.z
 have s:=yb i;have m:=yb f
 clear j hc B C A t i f d
 refine wp_seq ?_
 go_wp2_with (first
  |(refine yj rfl 35 _ rfl (w.heap.size+2) 0 rfl row _ (Ay D.o.x) qB rfl (BW (n:=26) (by kernel_rfl) l.o) ?_)
  |(refine Aj rfl 35 _ _ rfl (w.heap.size+1) rfl row rfl m.o (by rw[yB,s.o,l.o]) (BW (n:=26) (by kernel_rfl) l.o) M.o ?_;intro N e;have c:=yb e;clear e))
 refine H2 rfl rfl c.o.row qB rfl (BW (n:=26) (by kernel_rfl) l.o) ?_
 refine ⟨row,rfl,?_,I.o.stab _ _ _ K.o (fun k E=>c.o.block k (by have:=p.o k E;omega)) (by rw[c.o.size];exact ye _),D.o.bx.wrote c.o (by omega)⟩
 obtain ⟨L,H⟩:=a.o.flux (F':=FL G [w.heap.size,w.heap.size+1,w.heap.size+2]) (c.o.flux (.inr (by simp))) (fun _ h=>.inl h)
 exact ⟨L,H.same (fun b hb=>⟨fun k=>hb.1 (.inl k),hb.2⟩) (fun _ _=>rfl)⟩
set_option linter.unusedSimpArgs false
theorem Ua{id:Nat}{caps:Array Value}{F G:NP}{J:Bool->World->Prop}{g:Int->Rf->Rf}{q:Int->Rf->Bool}{b:Bool}{w W:World}{cs:LV}{u:Nat->Value}{x y:An}{L:Bh}{c0 c1 c2:LV}{h0 h1 h2 h3 h4 h5:Av}(hc:Jo id caps F g q J)(hv:B8 (GF G w) w L cs x)(aj:Sh x)(ak:∀k,F k->G k)(hG:∀k,G k->k < w.heap.size)(hu:UF id caps w u)
 (hS:MS F w cs (.string y.name::(c0++(c1++(c2++[h0.v,h1.v,h2.v,h3.v,h4.v,h5.v,.slice none 0 0])))) W)(hY:Dl 6 (GF (FL G [w.heap.size,w.heap.size+1,w.heap.size+2]) W) W c0 c1 c2 h0 h1 h2 h3 h4 h5 ⟨none,0,0⟩ y)(hJ:J b W):
  Code.wp Try.prog (CP 10 (Try.f17.body.getD .skip)) (bodyPost Try.prog Try.f17 (MP F G J (b&&x.duties.all (ED q)) (⟨y.name,y.season,y.cap,y.start,y.lets,y.crops,y.reaches,y.farms,y.rots,y.rights,(x.duties.map (Du g))⟩:An) w)) {tmps:=J0 u,defers:=[]} W:=by
 have c6:∀k,F k->k < w.heap.size:=fun k d=>hG k (ak k d)
 obtain ⟨⟨a,n,c⟩,hL⟩:∃h:Av,L.duties=h:=⟨_,rfl⟩
 obtain ⟨s0,s1,s2,bj,g0,g1,g2⟩:=hv.cells
 have av:W.cell? (aV w.heap.size 25)=some (.slice a n c):=by
  refine hS.cell (p:=.string x.name::(s0++(s1++(s2++[L.lets.v,L.crops.v,L.reaches.v,L.farms.v,L.rots.v,L.rights.v])))) (q:=[]) ?_ (by simp[g0.len,g1.len,g2.len])
  rw[bj,hL]
  simp[yl,Av.v]
 have ar:Az (GF G w) w 11 (DF (GF G w) w) ⟨a,n,c⟩ x.duties:=hL▸hv.duties
 have cv:=yb ar.2.2
 have Z:Hid (n=x.duties.length):=yb ar.1
 have aw:Hid (x.duties.length<=100000):=yb aj.slim.duties
 have HN:Hid (n<=140737488355328):=yb (by have:=Z.o;have:=aw.o;omega)
 obtain ⟨P,hP⟩:∃P:LV,P=.string y.name::(c0++(c1++(c2++[h0.v,h1.v,h2.v,h3.v,h4.v,h5.v]))):=⟨_,rfl⟩
 have bw:Hid (P.length=25):=yb (by rw[hP];simp[hY.e0.len,hY.e1.len,hY.e2.len])
 have c5:MS F w cs (P++(.slice none 0 0::[])) W:=by rw[hP];simpa[yl] using hS
 obtain ⟨I,hI⟩:∃I:Nat->World->Prop,I=fun i W=>∃v,MI DF 70 11 F G J b w cs P [] (fun N W=>Dl 6 N W c0 c1 c2 h0 h1 h2 h3 h4 h5 ⟨none,0,0⟩ y) (fun i=>(x.duties.take i).all (ED q)) (fun i=>(x.duties.take i).map (Du g)) i v W:=⟨_,rfl⟩
 have bz:Hid (I 0 W):=yb (by
  rw[hI]
  exact ⟨_,c5,by simpa using hJ,by simpa[ob,Value.ownBlock] using hY,by simpa using DQ⟩)
 have HI:=yb hI;have HV:=yb hv;have Y:=yb hc;have ck:=yb aj;have Q:=yb ak;have HG:=yb hG;have f:=yb c6;have cj:=yb hP;have HU:=yb hu;have d1:=yb hY.name
 rw[FB,hu.u1,hu.u2,hu.u4,hu.u5]
 clear hv aj hc ak hG c6 hS hY hJ hP hL bj g0 g1 g2 ar c5 hI hu
 refine Ag fun K hK=>?_
 go_wp2
 go_loopw [280] (fun iv wr=>∃i:Nat,iv=iV i∧i<=n∧Hid (I i wr)) (fun iv _=>n - (intOf iv).toNat)
 case atStart=>exact ⟨0,rfl,yz _,bz⟩
 case round=>
  clear bz av
  obtain ⟨i,rfl,hi,bm⟩:=hrel
  obtain ⟨v,hM⟩:∃v,MI DF 70 11 F G J b w cs P [] (fun N W=>Dl 6 N W c0 c1 c2 h0 h1 h2 h3 h4 h5 ⟨none,0,0⟩ y) (fun i=>(x.duties.take i).all (ED q)) (fun i=>(x.duties.take i).map (Du g)) i v wr:=by have h:=bm.o;rw[HI.o] at h;exact h
  obtain ⟨va,S,R,rfl⟩:=hM.grow.slice
  have B:=yb hM
  clear bm hM
  have cy:n<=140737488355328:=HN.o
  by_cases co:i < n
  ·have a8:i < x.duties.length:=by rw[<-Z.o];exact co
   have cl:(i:Int) < (n:Int):=by omega
   obtain ⟨bq,oq,ct,he,ac,c9,aa,al⟩:=cv.o i a8
   obtain rfl:a=some (aV bq oq):=he
   have af:Hid ((b&&(x.duties.take (i+1)).all (ED q))=((b&&(x.duties.take i).all (ED q))&&ED q x.duties[i])):=yb (by
    rw[yq a8,zh,ze,zu,yT,<-zc])
   have an:Hid ((x.duties.take (i+1)).map (Du g)=(x.duties.take i).map (Du g)++[Du g x.duties[i]]):=yb (by rw[yq a8,zb];rfl)
   have cx:Hid (i+1<=1000000):=yb (by have:=Z.o;have:=aw.o;omega)
   have az:=yb (ck.o.duties _ (yy a8))
   have ci:Hid (((x.duties.take i).map (Du g)).length=i):=yb (by simp;omega)
   generalize hD:x.duties[i]=D at al af an az
   clear hD
   generalize c3:(b&&(x.duties.take i).all (ED q))=bb at af
   have HJ:Hid (J bb wr):=yb (by rw[<-c3];exact B.o.j)
   clear c3
   have b3:=yb (Is al).2
   have C:=yb c9
   obtain ⟨nm,O,U,e0⟩:=D
   obtain ⟨au,ao,hdr,c0,rfl,x0⟩:=al
   simp only at aa C b3 af an az au ao hdr x0
   obtain ⟨ct,a0⟩:∃ct:LV,ct=(.string nm::(Ah O++(Ah U++c0))):=⟨_,rfl⟩
   rw[<-a0] at aa C b3
   have cg:=yb a0
   have cm:=yb au
   have ce:=yb ao
   have bv:=yb hdr
   have ba:Hid (wr.rangeAt bq (oq+i*11) ct):=yb (A2 aa (B.o.ms.bx.block bq ac.2 (fun k=>ac.1 (Q.o _ k))))
   have d0:Hid (bq < wr.heap.size):=yb (yp ac.2 B.o.ms.bx.size)
   have bg:Hid (At (fun c e=>AP (GF G w) w e c) [c0] [e0]):=yb ⟨x0,trivial⟩
   have bk:Hid (∀k∈(([w.heap.size,w.heap.size+1,w.heap.size+2]++ob (.slice va S R))++[wr.heap.size]),w.heap.size<=k∧k<=wr.heap.size):=yb (by
    have h1:=B.o.ms.lt
    intro k d
    rcases yo.1 d with d|d
    ·rcases yo.1 d with d|d
     ·simp at d;omega
     ·have:=B.o.grow.lt k d;omega
    ·simp at d;omega)
   have z:=yb B.o.ms.lt
   have b9:Hid (¬ F wr.heap.size):=yb (fun h=>by have:=f.o _ h;have:=z.o;omega)
   clear a0 aa ac c9 au ao hdr x0
   go_upto_region 66 with (first
    |(with_reducible refine yj rfl 70 _ rfl bq (oq+i*11) (by kernel_rfl) ct _ ba.o qO (by kernel_rfl) (BW (n:=11) (by kernel_rfl) C.o) ?_)
    |(with_reducible refine Aj rfl 70 _ _ rfl wr.heap.size (by kernel_rfl) ct (by kernel_rfl) (World.alloc_heap_new _ _) (by rw[yB,C.o];kernel_rfl) (BW (n:=11) (by kernel_rfl) C.o) b3.o ?_;intro X1 bo;have ab:=yb bo;clear bo))
   have A:Hid (TB F wr 70 (.string nm::(Ah O++(Ah U++c0))) X1):=yb (by rw[<-cg.o];exact EE ab.o)
   have s:Hid (J bb X1):=yb (Y.o.stab _ _ _ HJ.o (fun k d=>(AB ab.o).block k (by have:=f.o k d;have:=z.o;omega)) (AB ab.o).size)
   have E:Hid (VE G (([w.heap.size,w.heap.size+1,w.heap.size+2]++ob (.slice va S R))++[wr.heap.size]) X1 [c0] [e0]):=yb (At.mono (fun _ _ h=>h.flux ((B.o.ms.bx.trans (A.o.bx.mono B.o.ms.bx.size)).flux (ye _) Q.o) (fun k d=>d.imp (fun h=>h) (fun h=>(bk.o k h).1))) bg.o)
   clear ab ba bg
   have a1:=yb (Y.o.call (bb) X1 3 wr.heap.size 1 (.string nm::([]:LV)) O (Ah U++c0) 70 s.o (by have h:=A.o.row;simpa[yl] using h) (by simp) b9.o ce.o (by decide) (by decide))
   go_upto_region 67 with fail
   rw[Y.o.enter,zR]
   refine a1.o.mono ?_
   rintro e X2 ⟨rfl,hj,hx⟩
   have M:WX F X1 X2 wr.heap.size (.string nm::(Ah (g 3 O)++(Ah U++c0))) 70:=by simpa[yl] using hx
   have hT:=A.o.cb M;have hE:=E.o.cb M Q.o (by simp)
   clear A s E a1 hx
   have A:=yb hT;have E:=yb hE;have s:=yb hj
   clear hT hE hj M
   have a1:=yb (Y.o.call ((bb&&q 3 O)) X2 2 wr.heap.size 3 (.string nm::(Ah (g 3 O)++([]:LV))) U c0 70 s.o (by have h:=A.o.row;simpa[yl] using h) (by simp[A7]) b9.o bv.o (by decide) (by decide))
   go_upto_region 68 with fail
   rw[Y.o.enter,zR]
   refine a1.o.mono ?_
   rintro e X3 ⟨rfl,hj,hx⟩
   have M:WX F X2 X3 wr.heap.size (.string nm::(Ah (g 3 O)++(Ah (g 2 U)++c0))) 70:=by simpa[yl] using hx
   have hT:=A.o.cb M;have hE:=E.o.cb M Q.o (by simp)
   clear A s E a1 hx
   have A:=yb hT;have E:=yb hE;have s:=yb hj
   clear hT hE hj M
   have bn:=yb (A.o.part (p:=(.string nm::(Ah (g 3 O)++(Ah (g 2 U)++([]:LV))))) (m:=c0) (q:=([]:LV)) (off:=5) (by simp) (by simp[A7]))
   have aq:=E.o.1
   have ax:=yb aq.len
   have ai:=yb (B6 Y.o e0 (FL G (([w.heap.size,w.heap.size+1,w.heap.size+2]++ob (.slice va S R))++[wr.heap.size])) (((bb&&q 3 O)&&q 2 U)) X3 c0 az s.o aq (fun k d=>.inl (Q.o k d)) (fun k d=>by
    have h1:=A.o.lt;have h2:=z.o
    rcases d with d|d
    ·have:=HG.o k d;omega
    ·have:=(bk.o k d).2;omega))
   clear aq
   go_upto_region 69 with (first
    |(with_reducible refine yj rfl 26 _ rfl wr.heap.size 5 (by kernel_rfl) c0 _ bn.o qq (by kernel_rfl) (BV ax.o) ?_)
    |(go_at_call 65;refine ai.o.mono ?_;rintro e X4 ⟨res,rfl,b8,ca,ay⟩;have X:=yb b8;have cc:=yb ca;have cu:=yb ay;have b5:=yb (A.o.call (fun k d=>by have:=f.o k d;have:=z.o;omega) ay);clear b8 ca ay)
    |(with_reducible refine Cy rfl 26 _ _ rfl wr.heap.size 5 (by kernel_rfl) res (by kernel_rfl) (p:=(.string nm::(Ah (g 3 O)++(Ah (g 2 U)++([]:LV))))) (m:=c0) (q:=([]:LV)) (t:=70) (by have h:=b5.o.row;simpa[yl] using h) (by simp[A7]) (by rw[ax.o,X.o.len]) (BV X.o.len) (Ai X.o) ?_;intro X5 bd;have a2:Hid (AF X4 X5 wr.heap.size (.string nm::(Ah (g 3 O)++(Ah (g 2 U)++res))) 70):=yb (by simpa[yl] using bd);clear bd))
   have hT:=b5.o.wrote a2.o
   have HR:Hid (AP (GF (FL G (([w.heap.size,w.heap.size+1,w.heap.size+2]++ob (.slice va S R))++[wr.heap.size])) X5) X5 (AM g e0) res):=yb (X.o.fl (a2.o.flux (.inr (by simp))) (fun _ h=>.inl h))
   have hj:=Y.o.stab _ _ _ cc.o (fun k d=>a2.o.block k (by have:=f.o k d;have:=z.o;omega)) (by rw[a2.o.size];exact ye _)
   clear A b5 s cc E X cu a2 bn ax ai
   have A:=yb hT;have s:=yb hj
   clear hT hj
   obtain ⟨T,ap⟩:∃r:LV,r=(.string nm::(Ah (g 3 O)++(Ah (g 2 U)++res))):=⟨_,rfl⟩
   rw[<-ap] at A
   have am:Hid (DF (GF (FL G ([w.heap.size,w.heap.size+1,w.heap.size+2]++ob (.slice va S R))) X5) X5 T (Du g ⟨nm,O,U,e0⟩)):=yb (by
    rw[ap]
    have x0:AP (GF (FL G ([w.heap.size,w.heap.size+1,w.heap.size+2]++ob (.slice va S R))) X5) X5 (AM g e0) res:=HR.o.fl (Bj.refl _ _) (fun k d=>.inl (yo.2 (.inl d)))
    exact ⟨cm.o,Y.o.name _ _ ce.o,Y.o.name _ _ bv.o,_,rfl,x0⟩)
   clear ap HR
   have ae:=yb (Is am.o).1;have cr:=yb (Is am.o).2
   have b4:Hid (MS F w cs (P++(.slice va S R::[])) X5):=yb (B.o.ms.up f.o z.o A.o.bx)
   have cz:X5.cell? (aV (w.heap.size+2) 25)=some (.slice va S R):=b4.o.cellx rfl bw.o
   have c8:Hid (Bj (FL G ([w.heap.size,w.heap.size+1,w.heap.size+2]++ob (.slice va S R))) wr X5):=yb (A.o.bx.flux (ye _) (fun k d=>.inl (Q.o k d)))
   have bu:=B.o.grow.up (l':=[w.heap.size,w.heap.size+1,w.heap.size+2]) EY c8.o (fun k d=>A.o.bx.block k (B.o.grow.lt k d).2 (fun h=>by have:=f.o k h;have:=(B.o.grow.lt k d).1;omega)) (fun _ h=>.inl h)
   obtain ⟨rows,ad,bt,a7⟩:=bu.own
   have cf:=yb ad;have cp:=yb bt;have c4:=yb a7
   have ag:Hid (w.heap.size+3<=X5.heap.size):=yb b4.o.lt
   have b7:Hid ((X5.alloc (.cells T.toArray 70)).ownsRow (w.heap.size+3) 70 11 (.slice va S R) rows.length rows.flatten):=yb (BA ad fun k d=>((yg _ _).alloc (ye _) _).block k (F9 ad k d).2)
   have be:Hid (rows.length+1<=1000000):=yb (by rw[At.length a7,ci.o];exact cx.o)
   have cq:Hid (w.heap.size+3<=(X5.alloc (.cells T.toArray 70)).heap.size):=yb (by have:=ag.o;simp;omega)
   clear ad bt a7 bu
   go_upto_region 70 with (first
    |(with_reducible refine yj rfl 70 _ rfl wr.heap.size 0 (by kernel_rfl) T _ (Ay A.o.row) qO (by kernel_rfl) (BW (n:=11) (by kernel_rfl) ae.o) ?_)
    |(with_reducible refine BN rfl 33 70 _ rfl T (by kernel_rfl) 11 qA (by kernel_rfl) ae.o (by omega) (by omega) ?_)
    |(at_builtin;refine Bd qA rfl _ _ rfl 11 (by kernel_rfl) (by omega) (w.heap.size+3) (.slice va S R) rows.length rows.flatten (by kernel_rfl) b7.o X5.heap.size 1 T (by kernel_rfl) (World.alloc_heap_new _ _) ae.o cr.o be.o cq.o ?_;intro vx x8 a6 bp bi;obtain ⟨xa,xn,xc,rfl⟩:=Cz a6;have H:=yb (CD EY c4.o cp.o cf.o am.o ae.o a6 bp bi ag.o);have ah:=yb (b4.o.up f.o (ye _) (.of H.o.below));clear a6 bp bi)
    |(with_reducible refine Ao rfl 33 _ _ rfl (w.heap.size+2) 25 (by kernel_rfl) (.slice xa xn xc) (by kernel_rfl) (by kernel_rfl) (p:=P) (m:=.slice va S R) (q:=[]) (t:=35) ah.o.x bw.o (by kernel_rfl) (by kernel_rfl) ?_;intro x9 c7;have V:=yb c7;clear c7))
   go_wp2
   have ch:Hid (I (i+1) x9):=yb (by
    rw[HI.o]
    refine ⟨.slice xa xn xc,ah.o.wrote V.o,?_,?_,?_⟩
    ·rw[show (b&&(x.duties.take (i+1)).all (ED q))=(((bb&&q 3 O)&&q 2 U)&&AV q e0) by rw[af.o];simp[ED,zc]]
     exact Y.o.stab _ _ _ s.o (fun k d=>(V.o.block k (by have:=f.o k d;omega)).trans (H.o.below.block k (by have:=f.o k d;omega))) (by rw[V.o.size];exact H.o.flux.1)
    ·exact ((B.o.got.flux c8.o (fun _ h=>.inl h)).flux H.o.flux (Im H.o.obs)).flux (V.o.flux (.inr (by simp))) (fun _ h=>.inl h)
    ·have h:=H.o.grow.up (l':=[w.heap.size,w.heap.size+1,w.heap.size+2]) EY (V.o.flux (.inr (by simp))) (fun k d=>V.o.block k (by have:=(H.o.grow.lt k d).1;omega)) (fun _ h=>.inl h)
     rw[<-an.o] at h
     exact h)
   exact ⟨⟨i+1,by push_cast;rfl,by omega,ch⟩,by simp[intOf];omega⟩
  ·obtain rfl:i=n:=by omega
   have cl:decide ((i:Int) < (i:Int))=false:=by simp
   have HQ:Hid (J (b&&x.duties.all (ED q)) wr):=yb (by have h:=B.o.j;simp only[Z.o,yw] at h;exact h)
   have bh:DA DF 70 11 (w.heap.size+3) G [w.heap.size,w.heap.size+1,w.heap.size+2] wr (.slice va S R) (x.duties.map (Du g)):=by have h:=B.o.grow;simp only[Z.o,yw] at h;exact h
   obtain ⟨hd,cd,bs⟩:=bh.done EY (fun k d=>by have:=HG.o k d;omega) (fun k d=>by simp at d;omega) (by have:=aw.o;simp;omega)
   have cw:Hid (Dl 7 (GF (FL G [w.heap.size,w.heap.size+1,w.heap.size+2]) wr) wr c0 c1 c2 h0 h1 h2 h3 h4 h5 hd (⟨y.name,y.season,y.cap,y.start,y.lets,y.crops,y.reaches,y.farms,y.rots,y.rights,(x.duties.map (Du g))⟩:An)):=yb (by
    have h:=B.o.got.flux (F':=FL G [w.heap.size,w.heap.size+1,w.heap.size+2]) (Bj.refl _ _) (fun k d=>.inl (d.imp (fun h=>h) (fun h=>yo.2 (.inl h))))
    exact ⟨h.name,h.e0,h.e1,h.e2,fun d=>h.lets (by omega),fun d=>h.crops (by omega),fun d=>h.reaches (by omega),fun d=>h.farms (by omega),fun d=>h.rots (by omega),fun d=>h.rights (by omega),fun _=>bs⟩)
   rw[cd] at B
   have cn:=yb B.o.ms
   clear bh cd bs B
   go_wp2
   refine hK.o _ _ ?_
   refine FC (P:=fun l=>Code.wp Try.prog _ _ ⟨l,[]⟩ wr) rfl ?_
   refine Uv (y:=(⟨y.name,y.season,y.cap,y.start,y.lets,y.crops,y.reaches,y.farms,y.rots,y.rights,(x.duties.map (Du g))⟩:An)) Y.o f.o ?_ (by have h:=cn.o;rw[cj.o] at h;simpa[yl] using h) cw.o HQ.o
   exact ⟨rfl,rfl,rfl,rfl⟩
theorem FF{α:Type}{l:List α}{a:α}(h:a∈l):∃i,(a,i)∈l.zipIdx:=by
 obtain ⟨i,hi,rfl⟩:=xV h
 exact ⟨i,xw.2 (by simp[hi])⟩
theorem S8{x:An}(h:I1 x):Sh x:=by
 have c:=h.exprs
 unfold AL J7 GM Eo GN Ia DL Fm Fo at c
 simp only[yo,yN,yJ,zl,xp] at c
 have a:∀ {e:Ex} {k:Int},_->Ba e:=fun {e k} hh=>c (e,k) hh
 refine ⟨h,a (k:=0) (.inl (.inl rfl)),a (k:=0) (.inl (.inr (.inl rfl))),a (k:=0) (.inl (.inr (.inr rfl))),?_,?_,?_,?_,?_,?_,?_⟩
 ·intro d hd
  obtain ⟨i,hi⟩:=FF hd
  exact a (k:=1+(i:Int)) (.inr (.inl ⟨(d,i),hi,rfl⟩))
 ·intro d hd
  obtain ⟨i,hi⟩:=FF hd
  exact a (k:=0) (.inr (.inr (.inl ⟨(d,i),hi,rfl⟩)))
 ·intro d hd
  obtain ⟨i,hi⟩:=FF hd
  have b:∀ {e:Ex},_->Ba e:=fun {e} hh=>a (e:=e) (k:=0) (.inr (.inr (.inr (.inl ⟨(d,i),hi,hh⟩))))
  exact ⟨b (.inl rfl),b (.inr (.inl rfl)),b (.inr (.inr (.inl rfl))),b (.inr (.inr (.inr (.inl rfl)))),b (.inr (.inr (.inr (.inr (.inl rfl))))),b (.inr (.inr (.inr (.inr (.inr (.inl rfl)))))),b (.inr (.inr (.inr (.inr (.inr (.inr (.inl rfl))))))),b (.inr (.inr (.inr (.inr (.inr (.inr (.inr rfl)))))))⟩
 ·intro d hd
  obtain ⟨i,hi⟩:=FF hd
  exact a (k:=0) (.inr (.inr (.inr (.inr (.inl ⟨(d,i),hi,rfl⟩)))))
 ·intro d hd
  obtain ⟨i,hi⟩:=FF hd
  have b:∀ {e:Ex},_->Ba e:=fun {e} hh=>a (e:=e) (k:=0) (.inr (.inr (.inr (.inr (.inr (.inl ⟨(d,i),hi,hh⟩))))))
  refine ⟨⟨b (.inl (.inl rfl)),b (.inl (.inr (.inl rfl))),b (.inl (.inr (.inr rfl)))⟩,h.turns d hd,fun z g=>?_⟩
  obtain ⟨j,f⟩:=FF g
  exact b (.inr ⟨(z,j),f,rfl⟩)
 ·intro d hd
  obtain ⟨i,hi⟩:=FF hd
  have b:∀ {e:Ex},_->Ba e:=fun {e} hh=>a (e:=e) (k:=0) (.inr (.inr (.inr (.inr (.inr (.inr (.inl ⟨(d,i),hi,hh⟩)))))))
  exact ⟨b (.inl rfl),b (.inr (.inl rfl)),b (.inr (.inr (.inl rfl))),b (.inr (.inr (.inr (.inl rfl)))),b (.inr (.inr (.inr (.inr rfl))))⟩
 ·intro d hd
  obtain ⟨i,hi⟩:=FF hd
  exact a (k:=0) (.inr (.inr (.inr (.inr (.inr (.inr (.inr ⟨(d,i),hi,rfl⟩)))))))
section
variable{t:Tb}
mutual
theorem LW:∀e:Ex,Ba e->Ba (G0 t e)
 |.mk op n u rn ri args,h=>by
  rw[Ba] at h
  rw[G0,Ba,GX]
  exact ⟨h.1,LX args h.2⟩
theorem LX:∀l:List Ex,Er l->Er (Eu t l)
 |[],_=>by rw[Eu,Er];trivial
 |e::r,h=>by
  rw[Er] at h
  rw[Eu,Er]
  exact ⟨LW e h.1,LX r h.2⟩
end
theorem SQ{x:An}(h:I1 x):I1 (x.mp (fT t) (gT t)):=by
 refine ⟨by simpa[An.mp] using h.lets,by simpa[An.mp] using h.crops,by simpa[An.mp] using h.reaches,by simpa[An.mp] using h.farms,by simpa[An.mp] using h.rots,by simpa[An.mp] using h.rights,by simpa[An.mp] using h.duties,?_,?_⟩
 ·intro d hd
  simp only[An.mp] at hd
  obtain ⟨i,hi,rfl⟩:=xV hd
  rw[zZ]
  have:=h.turns _ (yy (l:=x.rots) (n:=i) (by simpa using hi))
  simpa[B7.mp] using this
 ·intro e a
  rw[JG] at a
  obtain ⟨d,hd,rfl⟩:=zw.1 a
  have:=h.exprs d hd
  unfold PA fT
  simp only
  split
  ·exact this
  ·exact LW _ this
theorem SS{x:An}(h:∀e∈AL x,AR e.1<=1000000):∀e∈AL (x.mp (fT t) (gT t)),AR e.1<=1000000:=by
 intro e a
 rw[JG] at a
 obtain ⟨d,hd,rfl⟩:=zw.1 a
 unfold PA
 simp only[NG]
 exact h d hd
end
end Go.Proofs.Ytghepahgkcigpaa
