/- Parts of the proof, in short words: Zp Aa Ab Bb Bc Ac Ad Ae Af Bs -/
import Derived.Test.YtghepahgkcigpaaRf0
import Derived.Test.YtghepahgkcigpaaRf12
import Derived.Test.YtghepahgkcigpaaRf10
import Derived.Test.YtghepahgkcigpaaRf9
import Derived.StillTailTactics
import Derived.Deep.CutBlock
import Derived.Test.YtghepahgkcigpaaRf8
set_option maxRecDepth 100000
set_option maxHeartbeats 64000000
set_option linter.unusedSimpArgs false
namespace Go.Proofs.Ytghepahgkcigpaa
open Go.RowKit
structure Pl where
 kind:Int
 name:ByteArray
 a:Rf
 b:Rf
 n:Int
 is:Bool
def Vm(p:Pl):LV:=[.int .i64 p.kind,.string p.name,.string p.a.name,.int .i64 p.a.n,.string p.b.name,.int .i64 p.b.n,.int .i64 p.n,.bool p.is]
def Sp:Rf:=⟨⟨#[]⟩,0⟩
def UZ(d:Dm):List Pl:=[⟨2,d.name,Sp,Sp,0,false⟩]
def Ux(d:BQ):List Pl:=[⟨3,d.name,Sp,Sp,0,false⟩]
def TS(d:Aw):List Pl:=[⟨4,d.name,d.frm,Sp,0,false⟩]
def Uy(d:BL):List Pl:=[⟨5,d.name,d.on,d.crop,0,d.river⟩]
def Uz(k:Br):List Pl:=[⟨7,⟨#[]⟩,k.farm,Sp,0,false⟩]
def V5(d:B9):List Pl:=[⟨6,d.name,d.on,Sp,d.rank,false⟩]++d.turns.flatMap Uz
def TT(d:AG):List Pl:=[⟨8,d.name,d.farm,d.reach,d.rank,false⟩,⟨9,⟨#[]⟩,Sp,Sp,d.kind,false⟩]
def UA(d:BR):List Pl:=[⟨10,d.name,d.farm,d.reach,0,false⟩]
def Vc(x:Aq):List Pl:=[⟨1,x.name,Sp,Sp,0,false⟩]
def Vd(x:Aq):List Pl:=Vc x++x.lets.flatMap UZ
def Ve(x:Aq):List Pl:=Vd x++x.crops.flatMap Ux
def Vf(x:Aq):List Pl:=Ve x++x.reaches.flatMap TS
def Vg(x:Aq):List Pl:=Vf x++x.farms.flatMap Uy
def Vh(x:Aq):List Pl:=Vg x++x.rots.flatMap V5
def Vi(x:Aq):List Pl:=Vh x++x.rights.flatMap TT
def TU(x:Aq):List Pl:=Vi x++x.duties.flatMap UA
structure Vn (x:Aq):Prop where
 p1:(Vc x).length<=1
 p2:(Vd x).length<=101
 p3:(Ve x).length<=201
 p4:(Vf x).length<=301
 p5:(Vg x).length<=401
 p6:(Vh x).length<=5371
 p7:(Vi x).length<=5971
 p8:(TU x).length<=6271
def Od(B:Nat)(w:World)(v:Value)(l:List Pl):Prop:=w.ownsRow B 125 8 v l.length (l.flatMap Vm)
theorem Od.up{B:Nat}{w w':World}{v:Value}{l:List Pl}(h:Od B w v l)(hb:Below w.heap.size w w'):Od B w' v l:=by
 obtain ⟨h1,h2⟩:=h
 refine ⟨h1,h2.imp id ?_⟩
 rintro ⟨g,cap,a,h3,h4,h5,h6⟩
 exact ⟨g,cap,a,h3,h4,(hb.block g (yf.1 h5).1).trans h5,h6⟩
structure Ps (w:World) (cs:List Value) (W:World) (v:Value) (l:List Pl):Prop where
 below:Below w.heap.size w W
 box:W.heap[w.heap.size]?=some (.cells cs.toArray 35 (0,0))
 own:Od (w.heap.size+1) W v l
 size:w.heap.size+1<=W.heap.size
theorem Ps.cell{w W:World}{cs:LV}{v:Value}{l:List Pl}{p q:LV}{u:Value}(h:Ps w cs W v l)(hc:cs=p++(u::q)){o:Nat}(a:p.length=o):W.cell? ⟨w.heap.size,o,none⟩=some u:=by
 have h1:=Ax h.box
 rw[hc] at h1
 have h2:=AX (p:=p) (c:=[u]) (q:=q) h1
 rw[a,yA] at h2
 exact CT h2
theorem Ps.next{w W W':World}{cs:LV}{v v':Value}{l a:List Pl}(h:Ps w cs W v l)(hb:Below (w.heap.size+1) W W')(b:Od (w.heap.size+1) W' v' (l++a)):Ps w cs W' v' (l++a):=
 ⟨h.below.trans (hb.mono (by omega)),(hb.block _ (by omega)).trans h.box,b,yr h.size hb.size⟩
structure BX (F:Nat->Prop) (C:Nat) (W W':World):Prop where
 os:W'.os=W.os
 tape:W'.tape=W.tape
 output:W'.output=W.output
 size:W.heap.size<=W'.heap.size
 block:∀k,k < C->¬ F k->W'.heap[k]?=W.heap[k]?
section
variable{F G:NP}{C C':Nat}{W V U:World}{c:LV}{t:TypeId}{b:Nat}{o:Obj}
theorem BX.refl(F:NP)(C:Nat)(W:World):BX F C W W:=⟨rfl,rfl,rfl,ye _,fun _ _ _=>rfl⟩
theorem BX.trans(h:BX F C W V)(k:BX F C V U):BX F C W U:=⟨k.os.trans h.os,k.tape.trans h.tape,k.output.trans h.output,yr h.size k.size,fun i hi a=>(k.block i hi a).trans (h.block i hi a)⟩
theorem BX.mono(h:BX F C W V)(a:C'<=C):BX F C' W V:=⟨h.os,h.tape,h.output,h.size,fun i hi=>h.block i (yp hi a)⟩
theorem BX.of(h:Below C W V):BX F C W V:=⟨h.os,h.tape,h.output,h.size,fun i hi _=>h.block i hi⟩
theorem BX.wrote(h:BX F C W V)(a:AE V U b c t)(hb:C<=b):BX F C W U:=⟨a.os.trans h.os,a.tape.trans h.tape,a.output.trans h.output,by rw[a.size];exact h.size,fun i hi d=>(a.block i (by omega)).trans (h.block i hi d)⟩
theorem BX.alloc(h:BX F C W V)(a:C<=V.heap.size)(o:Obj):BX F C W (V.alloc o):=h.trans (.of ((yg _ _).alloc a _))
theorem BX.drew(h:BX F C W V):BX F C W V.drew:=⟨h.os,h.tape,h.output,h.size,h.block⟩
theorem BX.flux(h:BX F C W V)(e:W.heap.size<=C)(b:∀k,F k->G k):Bl G W V:=⟨h.size,fun k d c=>h.block k (by omega) (fun a=>c (b k a))⟩
end
structure WX (F:Nat->Prop) (W W':World) (b:Nat) (c:List Value) (t:TypeId):Prop where
 os:W'.os=W.os
 tape:W'.tape=W.tape
 output:W'.output=W.output
 size:W'.heap.size=W.heap.size
 row:W'.heap[b]?=some (.cells c.toArray t (0,0))
 block:∀k,k≠b->¬ F k->W'.heap[k]?=W.heap[k]?
section
variable{F G:NP}{C:Nat}{W V U:World}{c:LV}{t:TypeId}{b:Nat}
theorem WX.bx(h:WX F V U b c t)(k:BX F C W V)(hb:C<=b):BX F C W U:=⟨h.os.trans k.os,h.tape.trans k.tape,h.output.trans k.output,by rw[h.size];exact k.size,fun i hi a=>(h.block i (by omega) a).trans (k.block i hi a)⟩
theorem WX.flux(h:WX F W V b c t)(f:∀k,F k->G k)(hb:G b):Bl G W V:=⟨by rw[h.size];exact ye _,fun k _ a=>h.block k (fun e=>a (e▸hb)) (fun d=>a (f k d))⟩
end
structure JH (id:Nat) (caps:Array Value) (F:Nat->Prop) (g:Int->Rf->Rf) (q:Int->Rf->Bool) (J:Bool->World->Prop):Prop where
 stab:∀b W W',J b W->(∀k,F k->W'.heap[k]?=W.heap[k]?)->W.heap.size<=W'.heap.size->J b W'
 lt:∀b W,J b W->∀k,F k->k < W.heap.size
 enter:∀args w,(callFunc id args).run Try.prog w=.ok (.enter id args) w
 name:∀c r,r.name.size<=maxLen->(g c r).name.size<=maxLen
 call:∀(b:Bool) (W:World) (c:Int) (B o:Nat) (p:List Value) (r:Rf) (s:List Value) (t:TypeId),J b W->W.heap[B]?=some (.cells (p++(Am r++s)).toArray t (0,0))->p.length=o->¬ F B->r.name.size<=maxLen->0<=c->c<=3->
  Calls Try.prog id (#[.int .i64 c,.pointer (some ⟨B,o,none⟩)]++caps) W fun e W'=>e=.returned (.tuple #[])∧J (b&&q c r) W'∧WX F W W' B (p++(Am (g c r)++s)) t
mutual
def AV(g:Int->Rf->Rf):Ex->Ex
 |.mk op n u rn ri args=>.mk op n u (if op=2 then (g 0 ⟨rn,ri⟩).name else rn) (if op=2 then (g 0 ⟨rn,ri⟩).n else ri) (Sy g args)
def Sy(g:Int->Rf->Rf):List Ex->List Ex
 |[]=> []
 |e::r=>AV g e::Sy g r
end
mutual
def AS(q:Int->Rf->Bool):Ex->Bool
 |.mk op _ _ rn ri args=>(if op=2 then q 0 ⟨rn,ri⟩ else true)&&MZ q args
def MZ(q:Int->Rf->Bool):List Ex->Bool
 |[]=>true
 |e::r=>AS q e&&MZ q r
end
theorem Oh(g:Int->Rf->Rf):∀l,Sy g l=l.map (AV g)
 |[]=>by rw[Sy];rfl
 |e::r=>by rw[Sy,Oh g r];rfl
theorem Oi(q:Int->Rf->Bool):∀l,MZ q l=l.all (AS q)
 |[]=>by rw[MZ];rfl
 |e::r=>by rw[MZ,Oi q r];rfl
def Vj(F G:NP)(J:Bool->World->Prop)(b:Bool)(e1:Ex)(w:World)(x:Ending)(w':World):Prop:=
 ∃a:LV,x=.returned (.agg a.toArray)∧AW (GF G w') w' e1 a∧J b w'∧BX F w.heap.size w w'
def Tj(N:NP)(w:World)(cs:LV)(d:Ex):Prop:=AW N w d cs
theorem KX:GL Tj:=fun _ _ _ _ _ _ a hb h=>AW.same a hb h
structure EB (F:Nat->Prop) (w:World) (row:List Value) (wr:World):Prop where
 bx:BX F w.heap.size w wr
 box:wr.heap[w.heap.size]?=some (.cells row.toArray 26 (0,0))
 res:wr.heap[w.heap.size+1]?=some (.cells [Value.int .i64 0,.int .i64 0,.int .i64 0,.string {data:=#[]},.int .i64 0,.slice none 0 0].toArray 26 (0,0))
section
variable{F:NP}{w wr W:World}{row:LV}
theorem EB.lt(h:EB F w row wr):w.heap.size+2<=wr.heap.size:=(yf.1 h.res).1
theorem EB.up(h:EB F w row wr)(a:∀k,F k->k < w.heap.size){C:Nat}(b:w.heap.size+2<=C)(hb:BX F C wr W):EB F w row W:=
 ⟨h.bx.trans (hb.mono (by omega)),(hb.block _ (by omega) (fun k=>xA _ (a _ k))).trans h.box,(hb.block _ (by omega) (fun k=>by have:=a _ k;omega)).trans h.res⟩
theorem EB.rng(h:EB F w row wr){b o:Nat}{c:LV}(a:w.rangeAt b o c)(hb:b < w.heap.size)(d:¬ F b):wr.rangeAt b o c:=A3 a (h.bx.block b hb d)
end
theorem Tk{N:NP}{W:World}{h:Ah}{ds:List Ex}(k:AF N W 6 (Tj N W) h ds):D7 N W h.a 0 ds:=by
 refine PB fun i hi=>?_
 obtain ⟨b,o,cs,h1,h2,h3,h4,h5⟩:=k.2.2 i hi
 exact ⟨b,o,cs,h1,h2,by simpa using h4,h5⟩
theorem Fp{fn:Func}{t:Tmp}{ty:TypeId}{R:Ending->World->Prop}{tm:Array Value}{W:World}{b:Nat}{c:LV}{d:TypeDesc}{a:TypeId}(h:fn.results=#[.cell t ty])(e:tm.getD t undef=.pointer (some ⟨b,0,none⟩))(g:W.heap[b]?=some (.cells c.toArray a (0,0)))
 (i:Try.prog.underlying ty=some d)(hd:d.isRow=true)(hi:(Try.prog.info? ty).map (·.size)=some c.length)(f:R (.returned (.agg c.toArray)) W):bodyPost Try.prog fn R .ret {tmps:=tm,defers:=[]} W:=by
 refine xo ?_ rfl f
 have h2:(loadVar ty (aV b 0)).run Try.prog W=.ok (.agg c.toArray) W:=xX _ b 0 ty c d (Ax g) i hd hi
 rw[yG] at e
 simp[results,h,e,asAddr,h2]
def UC(F G:NP)(g:Int->Rf->Rf)(q:Int->Rf->Bool)(J:Bool->World->Prop)(b:Bool)(w:World)(row:LV)(args:List Ex)(i:Nat)(v:Value)(wr:World):Prop:=
 ∃a,EB F w row wr∧J a wr∧a=(b&&(args.take i).all (AS q))∧Dw Tj 26 6 (w.heap.size+2) G [w.heap.size,w.heap.size+1] wr v ((args.take i).map (AV g))
def Vk(id:Nat)(caps:Array Value)(F:NP)(g:Int->Rf->Rf)(q:Int->Rf->Bool)(J:Bool->World->Prop)(e:Ex):Prop:=∀(G:NP) (b:Bool) (w:World) (cs:LV),Bd e->J b w->AW (GF G w) w e cs->(∀k,F k->G k)->(∀k,G k->k < w.heap.size)->
 Calls Try.prog 65 #[.agg cs.toArray,.func (.func id) #[] caps] w (Vj F G J (b&&AS q e) (AV g e) w)
theorem Mj{id:Nat}{caps:Array Value}{F:NP}{g:Int->Rf->Rf}{q:Int->Rf->Bool}{J:Bool->World->Prop}(hc:JH id caps F g q J){op nn u ri:Int}{rn:ByteArray}{args:List Ex}{a:Option Addr}{m cap:Nat}{G:NP}{b:Bool}{w V:World}
 {u0 u3 u5 u6 u7 u8 u9 ch bu co bn cj ba b5 c5 c4 cf bz bs c3 c7 bd ce bk bh cg b7 bw:Value}(hm:m=args.length)(hl:args.length<=100000)(a2:Ep args)(ac:rn.size<=maxLen)(Y:D7 (GF G w) w a 0 args)(Z:∀k,F k->G k)(hG:∀k,G k->k < w.heap.size)
 (ih:∀e∈args,Vk id caps F g q J e)
 (hE:EB F w [.int .i64 op,.int .i64 nn,.int .i64 u,.string rn,.int .i64 ri,.slice a m cap] V)(hJ:J b V):
  Code.wp Try.prog (DO 2 (Try.f65.body.getD .skip)) (bodyPost Try.prog Try.f65 (Vj F G J (b&&args.all (AS q)) (.mk op nn u rn ri (args.map (AV g))) w)) {tmps:=#[u0,.func (.func id) #[] caps,.pointer (some ⟨w.heap.size,0,none⟩),u3,.pointer (some ⟨w.heap.size+1,0,none⟩),u5,u6,u7,u8,u9,ch,bu,co,bn,cj,ba,b5,c5,c4,cf,bz,bs,c3,c7,bd,ce,bk,bh,cg,b7,bw],defers:=[]} V:=by
 obtain ⟨row,O⟩:∃r:LV,r=[iV op,iV nn,iV u,.string rn,iV ri,.slice a m cap]:=⟨_,rfl⟩
 rw[<-O] at hE
 have b8:=yb O
 have HM:=yb hm
 have HL:=yb hl
 have c6:=yb a2
 have cn:=yb ac
 have aq:=yb Y
 have L:=yb Z
 have HG:=yb hG
 have IH:=yb ih
 have l:=yb hE
 have HC:=yb hc
 have HJ:=yb hJ
 have s:Hid (∀k,F k->k < w.heap.size):=yb (fun k c=>hG k (Z k c))
 have HN:Hid (m<=140737488355328):=yb (by omega)
 have cb:V.cell? (aV w.heap.size 5)=some (.slice a m cap):=by simp[World.cell?,hE.box,O]
 clear O hm hl a2 ac Y Z hG ih hE hc hJ
 refine Ap fun K hK=>?_
 go_wp2
 refine hK.o _ _ ?_
 clear hK K
 obtain ⟨I,hI⟩:∃I:Nat->Value->World->Prop,I=UC F G g q J b w row args:=⟨_,rfl⟩
 have HI:=yb hI
 have av:Hid (I 0 (.slice none 0 0) V):=yb (by rw[hI];exact ⟨b,l.o,HJ.o,by simp,by simpa using DP⟩)
 clear hI l HJ
 refine Ap fun K hK=>?_
 go_wp2
 go_loopw [5,17] (fun v5 iv wr=>∃i:Nat,iv=iV i∧i<=m∧Hid (I i v5 wr)) (fun _ iv _=>m - (intOf iv).toNat)
 case atStart=>exact ⟨0,rfl,yz _,av⟩
 case round=>
  clear av
  obtain ⟨i,rfl,hi,ak⟩:=hrel
  obtain ⟨bb,hE,hJ,ax,a1⟩:UC F G g q J b w row args i u5 wr:=by have h:=ak.o;rw[HI.o] at h;exact h
  obtain ⟨va,S,H,rfl⟩:=a1.slice
  have l:=yb hE;have HJ:=yb hJ;have HB:=yb ax;have f:=yb a1
  clear ak hE hJ ax a1
  have cp:m<=140737488355328:=HN.o
  by_cases bt:i < m
  ·have y:i < args.length:=by rw[<-HM.o];exact bt
   have bp:(i:Int) < (m:Int):=by omega
   obtain ⟨bq,oq,ct,he,P,a0,M⟩:=F0 aq.o i y
   obtain rfl:a=some (aV bq oq):=he
   rw[yA] at a0
   have b3:Hid ((b&&(args.take (i+1)).all (AS q))=(bb&&AS q args[i])):=yb (by
    rw[yq y,zh,ze,zu,yT,<-zc,<-HB.o])
   have ag:Hid ((args.take (i+1)).map (AV g)=(args.take i).map (AV g)++[AV g args[i]]):=yb (by rw[yq y,zb];rfl)
   have cl:Hid (i+1<=1000000):=yb (by have:=HL.o;have:=HM.o;omega)
   have au:Hid (Bd args[i]):=yb (J6 c6.o i y)
   have af:=yb (IH.o args[i] (yy y))
   have bm:Hid (((args.take i).map (AV g)).length=i):=yb (by simp;omega)
   generalize hD:args[i]=D at M b3 ag au af
   clear hD
   have ab:=yb M
   have U:Hid (ct.length=6):=yb M.len
   have bo:Hid (wr.rangeAt bq (oq+i*6) ct):=yb (l.o.rng a0 P.2 (fun k=>P.1 (L.o _ k)))
   have cu:Hid (bq < wr.heap.size):=yb (yp P.2 l.o.bx.size)
   clear a0 M P y
   go_upto_region 7 with (first
    |(refine yj rfl 26 _ rfl bq (oq+i*6) rfl ct _ bo.o qq rfl (BW U.o) ?_)
    |(refine Ae rfl 26 _ _ rfl wr.heap.size rfl ct rfl (World.alloc_heap_new _ _) (by rw[yB,U.o];rfl) (BW U.o) (Ai ab.o) ?_;intro x1 al;have az:=yb al;clear al))
   have z:Hid (Below wr.heap.size wr x1):=yb (az.o.below ((yg _ _).alloc (ye _) _) (ye _))
   have bv:Hid (J bb x1):=yb (HC.o.stab _ _ _ HJ.o (fun k c=>z.o.block k (by have:=s.o k c;have:=l.o.lt;omega)) z.o.size)
   have ca:Hid (∀(x:World),BX F w.heap.size w x->Bl G w x):=yb (fun x h=>h.flux (ye _) L.o)
   have ci:Hid (AW (GF (FL G ([w.heap.size,w.heap.size+1]++ob (.slice va S H))) x1) x1 D ct):=yb (ab.o.flux (ca.o _ (l.o.bx.trans (.of (z.o.mono l.o.bx.size)))) (fun k c=>c.imp (fun h=>h) (fun h=>by
    rcases yo.1 h with h|h
    ·simp at h;omega
    ·have:=(f.o.lt k h).1;omega)))
   have ap:=yb (af.o (FL G ([w.heap.size,w.heap.size+1]++ob (.slice va S H))) bb x1 ct au.o bv.o ci.o (fun k c=>.inl (L.o k c)) (fun k c=>by
    have h1:=l.o.lt;have h2:=z.o.size
    rcases c with c|c
    ·have:=HG.o k c;omega
    ·rcases yo.1 c with h|h
     ·simp at h;omega
     ·have:=(f.o.lt k h).2;omega))
   go_upto_region 8 with (first
    |(refine yj rfl 26 _ rfl wr.heap.size 0 rfl ct _ (Ax az.o.row) qq rfl (BW U.o) ?_)
    |(go_at_call 65;refine ap.o.mono ?_;rintro e x2 ⟨res,rfl,a7,b4,ar⟩;have B:=yb a7;have cm:=yb b4;have W:Hid (BX F wr.heap.size wr x2):=yb ((BX.of z.o).trans (ar.mono z.o.size));clear a7 b4 ar
      have aj:Hid (∀k∈ob (.slice va S H),¬ F k∧w.heap.size+2<=k∧k < wr.heap.size):=yb (fun k c=>⟨fun h=>by have:=s.o k h;have:=(f.o.lt k c).1;omega,f.o.lt k c⟩)
      obtain ⟨rows,R,ao,E⟩:=(f.o.up KX (W.o.flux (ye _) (fun k c=>.inl (L.o k c))) (fun k c=>W.o.block k (aj.o k c).2.2 (aj.o k c).1) (fun _ h=>.inl h)).own
      have b9:=yb R;have c8:=yb ao;have ay:=yb E
      have X:Hid (w.heap.size+2<=x2.heap.size):=yb (by have:=W.o.size;have:=l.o.lt;omega)
      have a6:Hid ((x2.alloc (.cells res.toArray 26)).ownsRow (w.heap.size+2) 26 6 (.slice va S H) rows.length rows.flatten):=yb (Bv R fun k c=>((yg _ _).alloc (ye _) _).block k (EJ R k c).2)
      have aa:Hid (rows.length+1<=1000000):=yb (by rw[Au.length E,bm.o];exact cl.o)
      have c9:Hid (w.heap.size+2<=(x2.alloc (.cells res.toArray 26)).heap.size):=yb (by have:=X.o;simp;omega)
      clear R ao E)
    |(refine BO rfl 24 26 _ rfl res rfl 6 qp (by kernel_rfl) B.o.len (by omega) (by omega) ?_)
    |(at_builtin;refine Bg qp rfl _ _ rfl 6 (by kernel_rfl) (by omega) (w.heap.size+2) (.slice va S H) rows.length rows.flatten rfl a6.o x2.heap.size 1 res rfl (World.alloc_heap_new _ _) B.o.len (Ai B.o) aa.o c9.o ?_;intro vx x8 C am ad;obtain ⟨xa,xn,xc,rfl⟩:=CX C;have N:=yb (Cy KX ay.o c8.o b9.o B.o B.o.len C am ad X.o);clear C am ad))
   go_wp2
   have ai:Hid (BX F (w.heap.size+2) wr x8):=yb ((W.o.mono l.o.lt).trans (.of N.o.below))
   have bg:Hid (I (i+1) (.slice xa xn xc) x8):=yb (by
    rw[HI.o]
    refine ⟨bb&&AS q D,l.o.up s.o (ye _) ai.o,HC.o.stab _ _ _ cm.o (fun k c=>N.o.below.block k (by have:=s.o k c;omega)) N.o.flux.1,b3.o.symm,?_⟩
    rw[ag.o];exact N.o.grow)
   exact ⟨⟨i+1,by push_cast;rfl,by omega,bg⟩,by simp[intOf];omega⟩
  ·obtain rfl:i=m:=by omega
   have bp:decide ((i:Int) < (i:Int))=false:=by simp
   have HQ:Hid (bb=(b&&args.all (AS q))):=yb (by rw[HB.o,HM.o,yw])
   have a8:Hid (Dw Tj 26 6 (w.heap.size+2) G [w.heap.size,w.heap.size+1] wr (.slice va S H) (args.map (AV g))):=yb (by have h:=f.o;rw[HM.o,yw] at h;exact h)
   clear f HB
   go_wp2
   refine hK.o _ _ ?_
   obtain ⟨d,Q⟩:∃r:LV,r=[iV op,iV nn,iV u,.string rn,iV ri,.slice va S H]:=⟨_,rfl⟩
   have aw:=yb Q
   have T:Hid (d.length=6):=yb (by rw[Q];rfl)
   have cc:Hid (∀v∈d,v.oneCell'=true):=yb (by rw[Q];simp[Value.oneCell'])
   have bj:Hid (wr.heap[w.heap.size]?=some (.cells ([iV op,iV nn,iV u,.string rn,iV ri]++(Value.slice a i cap::[])).toArray 26 (0,0))):=yb (by have h:=l.o.box;rw[b8.o] at h;exact h)
   clear Q
   go_wp2_with (first
    |(refine Ag rfl 24 _ _ rfl w.heap.size 5 rfl (.slice va S H) rfl rfl (p:=[iV op,iV nn,iV u,.string rn,iV ri]) (m:=.slice a i cap) (q:=[]) (t:=26) bj.o rfl (by kernel_rfl) rfl ?_;intro x5 ah;have j:Hid (AE wr x5 w.heap.size d 26):=yb (by rw[aw.o];exact ah);clear ah)
    |(refine yj rfl 26 _ rfl w.heap.size 0 rfl d _ (Ax j.o.row) qq rfl (BW T.o) ?_)
    |(refine Ae rfl 26 _ _ rfl (w.heap.size+1) rfl d rfl ((j.o.block _ (by omega)).trans l.o.res) (by rw[T.o];rfl) (BW T.o) cc.o ?_;intro x6 ae;have A:=yb ae;clear ae))
   refine Fp rfl rfl A.o.row qq rfl (by rw[T.o];kernel_rfl) ?_
   have bi:BX F w.heap.size w x6:=(l.o.bx.wrote j.o (ye _)).wrote A.o (Nat.le_succ _)
   have be:J bb x6:=HC.o.stab _ _ _ HJ.o (fun k c=>(A.o.block k (by have:=s.o k c;omega)).trans (j.o.block k (by have:=s.o k c;omega))) (by rw[A.o.size,j.o.size];exact ye _)
   refine ⟨d,rfl,?_,by rw[<-HQ.o];exact be,bi⟩
   rw[aw.o,AW]
   have cd:Bl (FL G [w.heap.size,w.heap.size+1]) wr x6:=(j.o.flux (.inr (by simp))).trans (A.o.flux (.inr (by simp)))
   have ck:∀k∈ob (.slice va S H),x6.heap[k]?=wr.heap[k]?:=fun k c=>by
    have h1:=(a8.o.lt k c).1
    exact (A.o.block k (by omega)).trans (j.o.block k (by omega))
   obtain ⟨h,he,an⟩:=a8.o.row KX cd ck (fun k c=>by have:=HG.o k c;omega) (by have:=HL.o;simp;omega)
   have hn:h.n=(args.map (AV g)).length:=an.1
   obtain ⟨ha,cr,cq⟩:=h
   simp only[Ah.v,zX] at he
   obtain ⟨rfl,rfl,rfl⟩:=he
   simp only at hn
   subst hn
   exact ⟨va,H,rfl,by have:=HL.o;simp;omega,cn.o,Tk an⟩
set_option linter.unusedSimpArgs false
theorem K6{B:Nat}{w:World}{v:Value}{l:LB}(h:Dk B w v l)(hl:l.length<=140737488355328):∃h:Ah,v=h.v∧AM w h 1 0 l∧∀b o i,h.a=some ⟨b,o,i⟩->B<=b∧b < w.heap.size:=by
 obtain ⟨hd,c,d⟩:=h.nm hl
 refine ⟨hd,c,d,fun b o i hb=>?_⟩
 rcases h.1.2 with ⟨h1,h2⟩|⟨g,cap,e,h1,h4,h5,_⟩
 ·rw[h1] at c;unfold Ah.v at c;simp only[zX] at c;have h6:=c.1;rw[hb] at h6;cases h6
 ·rw[h1] at c;unfold Ah.v at c;simp only[zX] at c;have h6:=c.1;rw[hb] at h6;cases h6;exact ⟨h4,(yf.1 h5).1⟩
structure Tl (G:Nat->Prop) (W:World) (h:Ah) (l:List ByteArray):Prop where
 nm:AM W h 1 0 l
 on:∀b o i,h.a=some ⟨b,o,i⟩->G b
theorem Tl.to{G G':NP}{W W':World}{h:Ah}{l:LB}(f:Tl G W h l)(hb:∀k,G k->W'.heap[k]?=W.heap[k]?)(hs:W.heap.size<=W'.heap.size)(e:∀k,G k->G' k):Tl G' W' h l:=by
 obtain ⟨⟨h1,h2,h3⟩,h4⟩:=f
 refine ⟨⟨h1,h2,fun i hi=>?_⟩,fun b o i hb=>e b (h4 b o i hb)⟩
 obtain ⟨b,o,cs,g1,g,a,d,c⟩:=h3 i hi
 exact ⟨b,o,cs,g1,yp g hs,a,A3 d (hb b (h4 b o none g1)),c⟩
theorem K8(G:NP)(W:World):Tl G W ⟨none,0,0⟩ []:=⟨⟨rfl,by simp,fun i hi=>absurd hi (by simp)⟩,fun b o i h=>by cases h⟩
structure Ls (G:Nat->Prop) (W:World) (h0 h1 h2 h3:Ah) (t:Tb):Prop where
 lets:Tl G W h0 t.lets
 crops:Tl G W h1 t.crops
 reaches:Tl G W h2 t.reaches
 farms:Tl G W h3 t.farms
theorem Ls.to{G G':NP}{W W':World}{h0 h1 h2 h3:Ah}{t:Tb}(h:Ls G W h0 h1 h2 h3 t)(hb:∀k,G k->W'.heap[k]?=W.heap[k]?)(hs:W.heap.size<=W'.heap.size)(a:∀k,G k->G' k):Ls G' W' h0 h1 h2 h3 t:=
 ⟨h.lets.to hb hs a,h.crops.to hb hs a,h.reaches.to hb hs a,h.farms.to hb hs a⟩
def V6(w:World)(t:Tb)(e:Ending)(w':World):Prop:=∃h0 h1 h2 h3:Ah,e=.returned (.agg #[h0.v,h1.v,h2.v,h3.v])∧Ls (fun k=>w.heap.size<=k∧k < w'.heap.size) w' h0 h1 h2 h3 t∧Below w.heap.size w w'
structure DI (R B:Nat) (W0:World) (p q:List Value) (l:List ByteArray) (v:Value) (W:World):Prop where
 row:W.heap[R]?=some (.cells (p++(v::q)).toArray 44 (0,0))
 own:Dk B W v l
 bx:BX (fun k=>k=R) B W0 W
theorem DI.up{R B:Nat}{W0 W W':World}{p q:LV}{l:LB}{v:Value}(h:DI R B W0 p q l v W)(a:R < W.heap.size)(b:B<=W.heap.size)(hb:Below W.heap.size W W'):DI R B W0 p q l v W':=
 ⟨(hb.block _ a).trans h.row,h.own.up hb,h.bx.trans (.of (hb.mono b))⟩
theorem DI.put{R B:Nat}{W0 W b c:World}{p q:LV}{l m:LB}{v u:Value}(h:DI R B W0 p q l v W)(g:R < B)(n:B<=W.heap.size)(d:Dk B b u m)(j:W.grownBy b v.ownBlock)(a:AE b c R (p++(u::q)) 44):DI R B W0 p q m u c:=by
 refine ⟨a.row,⟨Bv d.1 fun k e=>a.block k (by have:=(EJ d.1 k e).1;omega),d.2⟩,?_⟩
 have hb:Below B W b:=IF (yg _ _) n h.own j
 have f:BX (fun k=>k=R) B b c:=⟨a.os,a.tape,a.output,by rw[a.size];exact ye _,fun i _ hi=>a.block i hi⟩
 exact (h.bx.trans (.of hb)).trans f
theorem I0{W W':World}{v:Value}{R B:Nat}{l:LB}(a:W.grownBy W' v.ownBlock)(b:Dk B W v l)(c:R < B)(d:B<=W.heap.size):W'.heap[R]?=W.heap[R]?:=
 (IF (yg B W) d b a).block R c
theorem N0{N:NP}{w:World}{L:Bz}{cs:LV}{x:Aq}(h:BC N w L cs x)(hN:∀b,N b->b < w.heap.size)(bo:Fw x):
  Calls Try.prog 16 #[.agg cs.toArray] w (V6 w (Tb.of x)):=by
 have P:=yb (h.nms hN)
 have bu:Hid (TR L x):=yb ⟨h.lets.1,h.crops.1,h.reaches.1,h.farms.1,h.rots.1,h.rights.1,h.duties.1⟩
 have bb:=yb bo
 have bv:=yb h.ok
 have bg:=yb h.at
 clear h hN bo
 go_enter Try.func16,Try.ntmps16
 refine Ap fun K hK=>?_
 go_wp2_with (first|(with_reducible refine Ir rfl 35 _ rfl cs.toArray (by kernel_rfl) ?_))
 refine hK.o _ _ ?_
 clear hK K
 obtain ⟨w1,b4⟩:∃z:World,z=(w.alloc (.cells cs.toArray 35)).alloc (.cells #[.slice none 0 0,.slice none 0 0,.slice none 0 0,.slice none 0 0] 44):=⟨_,rfl⟩
 rw[<-b4]
 have b9:Hid (Below w.heap.size w w1):=yb (by rw[b4];exact ((yg _ _).alloc (ye _) _).alloc (by simp) _)
 have bt:Hid (w1.heap.size=w.heap.size+2):=yb (by rw[b4];simp)
 have bd:Hid (w1.heap[w.heap.size]?=some (.cells cs.toArray 35 (0,0))):=yb (by rw[b4,yQ _ _ _ (by simp)];exact World.alloc_heap_new _ _)
 have bn:Hid (w1.heap[w.heap.size+1]?=some (.cells (qV:LV).toArray 44 (0,0))):=yb (by
  have h:=World.alloc_heap_new (w.alloc (.cells cs.toArray 35)) (.cells #[.slice none 0 0,.slice none 0 0,.slice none 0 0,.slice none 0 0] 44)
  rw[b4];simpa using h)
 clear b4
 have a2:Hid (Ls (fun k=>w.heap.size+2<=k∧k < w1.heap.size) w1 ⟨none,0,0⟩ ⟨none,0,0⟩ ⟨none,0,0⟩ ⟨none,0,0⟩ ⟨[],[],[],[]⟩):=yb ⟨K8 _ _,K8 _ _,K8 _ _,K8 _ _⟩
 have u:Hid (BX (fun k=>k=w.heap.size+1) (w.heap.size+1) w1 w1):=yb (BX.refl _ _ _)
 have T:Hid (w1.heap[w.heap.size+1]?=some (.cells ([Ah.v ⟨none,0,0⟩,Ah.v ⟨none,0,0⟩,Ah.v ⟨none,0,0⟩,Ah.v ⟨none,0,0⟩]:LV).toArray 44 (0,0))):=yb bn.o
 have c:Hid (w.heap.size+2<=w1.heap.size):=yb (by rw[bt.o];exact ye _)
 clear bn
 obtain ⟨v1,bj⟩:∃z:World,z=w1:=⟨_,rfl⟩
 rw[<-bj] at a2 T c ⊢
 have u:Hid (BX (fun k=>k=w.heap.size+1) (w.heap.size+1) w1 v1):=yb (by rw[bj];exact BX.refl _ _ _)
 clear bj
 obtain ⟨⟨ha,y,hc⟩,hL⟩:∃h:Ah,L.lets=h:=⟨_,rfl⟩
 obtain ⟨a,f⟩:∃l:LB,l=(x.lets.map (·.name)):=⟨_,rfl⟩
 have A:Hid (a.length<=300):=yb (by have:=bb.o.lets;rw[f];simp;omega)
 have Y:AM w ⟨ha,y,hc⟩ 7 0 a:=by have h:=P.o.lets;rw[hL] at h;rw[f];exact h
 have HR:=yb Y.2.2
 have HN:Hid (y=a.length):=yb Y.1
 have am:y<=140737488355328:=by have:=HN.o;have:=A.o;omega
 have ay:=yb f
 have s:Hid (cs[19]?=some (.slice ha y hc)):=yb (by have h:=bg.o.lets;rw[hL] at h;exact h)
 clear Y hL f
 have hf:v1.cell? (aV w.heap.size 19)=some (.slice ha y hc):=by
  have e:=(u.o.block w.heap.size (by omega) (by omega)).trans bd.o
  simp only[World.cell?,e]
  simpa using s.o
 obtain ⟨I,hI⟩:∃I:Nat->World->Prop,I=fun i wr=>∃v,DI (w.heap.size+1) v1.heap.size v1 [] [Ah.v ⟨none,0,0⟩,Ah.v ⟨none,0,0⟩,Ah.v ⟨none,0,0⟩] (a.take i) v wr:=⟨_,rfl⟩
 have HI:=yb hI
 have al:Hid (I 0 v1):=yb (by
  rw[hI]
  exact ⟨.slice none 0 0,T.o,by simpa using G3 _ _,BX.refl _ _ _⟩)
 clear hI
 refine Ap fun K hK=>?_
 go_wp2
 go_loopw [14] (fun iv wr=>∃i:Nat,iv=iV i∧i<=y∧Hid (I i wr)) (fun iv _=>y - (intOf iv).toNat)
 case atStart=>exact ⟨0,rfl,yz _,al⟩
 case round=>
  clear al
  obtain ⟨i,rfl,hi,HJ⟩:=hrel
  obtain ⟨v,hD⟩:∃v,DI (w.heap.size+1) v1.heap.size v1 [] [Ah.v ⟨none,0,0⟩,Ah.v ⟨none,0,0⟩,Ah.v ⟨none,0,0⟩] (a.take i) v wr:=by have h:=HJ.o;rw[HI.o] at h;exact h
  have j:=yb hD
  clear HJ hD
  by_cases af:i < y
  ·have R:i < a.length:=by rw[<-HN.o];exact af
   have ad:(i:Int) < (y:Int):=by omega
   obtain ⟨b,o,S,he,V,F,ag,H,g,Q⟩:=HR.o i R
   obtain rfl:ha=some (aV b o):=he
   have d:Hid (a.take (i+1)=a.take i++[a[i]]):=yb (yq R)
   have ah:Hid ((a.take i).length+1<=1000000):=yb (by have:=A.o;rw[yM];omega)
   generalize a[i]=nm at g Q d
   generalize av:a.take i=l0 at j ah d
   clear av
   have ab:Hid (wr.rangeAt b (o+i*7) S):=yb (A3 ag (((j.o.bx.block b (yp V (by have:=c.o;omega)) (by omega))).trans ((u.o.block b (by omega) (by omega)).trans (b9.o.block b V))))
   have C:=yb F;have ak:=yb H;have P:=yb g;have aq:=yb Q
   have a7:Hid (v1.heap.size<=wr.heap.size):=yb j.o.bx.size
   have a6:Hid (w.heap.size+1 < wr.heap.size):=yb (by have:=a7.o;have:=c.o;omega)
   clear ag F H g Q V R
   go_upto_region 4 with (first
    |(with_reducible refine yj rfl 55 _ rfl b (o+i*7) (by kernel_rfl) S _ ab.o qH (by kernel_rfl) (Cl (n:=7) (by kernel_rfl) C.o) ?_)
    |(with_reducible refine Ae rfl 55 _ _ rfl wr.heap.size (by kernel_rfl) S (by kernel_rfl) (World.alloc_heap_new _ _) (by rw[yB,C.o];kernel_rfl) (Cl (n:=7) (by kernel_rfl) C.o) ak.o ?_;intro W ai;have U:=yb ai;clear ai))
   have a8:Hid (Below wr.heap.size wr W):=yb (Az U.o)
   have bk:W.cell? (aV wr.heap.size 0)=some (.string nm):=by
    have h:=Ax U.o.row
    have:=h 0 _ P.o
    simpa using this
   have E:=yb (j.o.up a6.o a7.o a8.o)
   have bh:W.cell? (aV (w.heap.size+1) 0)=some v:=by
    have h:=E.o.row
    simp only[World.cell?,h]
    simp
   clear U ab C ak P
   have Z:Hid (v1.heap.size<=(W.alloc (.cells #[.string nm] 9)).heap.size):=yb (by have:=E.o.bx.size;simp;omega)
   have D:=yb (E.o.up (yp a6.o a8.o.size) E.o.bx.size ((yg _ _).alloc (ye _) (.cells #[.string nm] 9)))
   have aa:Hid ((W.alloc (.cells #[.string nm] 9)).heap[W.heap.size]?=some (.cells #[.string nm] 9 (0,0))):=yb (World.alloc_heap_new _ _)
   have ac:Hid (w.heap.size+1 < v1.heap.size):=yb (by have:=c.o;omega)
   go_wp2_with (first
    |(at_builtin;refine Ck v1.heap.size rfl _ _ rfl v l0 rfl D.o.own W.heap.size 1 nm rfl aa.o aq.o ah.o Z.o ?_;intro ax c5 w5 an X;have aw:=yb an;have au:=yb X;have ar:=yb ((I0 X D.o.own ac.o Z.o).trans D.o.row);clear an X)
    |(with_reducible refine Ag rfl 43 _ _ rfl (w.heap.size+1) 0 (by kernel_rfl) (.slice ax (l0.length+1) c5) (by kernel_rfl) (by kernel_rfl) (p:=[]) (m:=v) (q:=[Ah.v ⟨none,0,0⟩,Ah.v ⟨none,0,0⟩,Ah.v ⟨none,0,0⟩]) (t:=44) ar.o (by kernel_rfl) (by kernel_rfl) (by kernel_rfl) ?_;intro w6 ae;have az:=yb ae;clear ae))
   exact ⟨⟨i+1,by push_cast;rfl,by omega,yb (by rw[HI.o];exact ⟨_,by rw[d.o];exact D.o.put ac.o Z.o aw.o au.o az.o⟩)⟩,by simp[intOf];omega⟩
  ·obtain rfl:i=y:=by omega
   have ad:decide ((i:Int) < (i:Int))=false:=by simp
   have aj:Dk v1.heap.size wr v a:=by
    have h:=j.o.own
    rw[HN.o,yw] at h
    exact h
   obtain ⟨B,rfl,g,a0⟩:=K6 aj (by have:=A.o;omega)
   obtain ⟨V1,b7⟩:∃z:World,z=wr:=⟨_,rfl⟩
   have G:Hid (w.heap.size+2<=V1.heap.size):=yb (by rw[b7];have:=j.o.bx.size;have:=c.o;omega)
   have O:Hid (BX (fun k=>k=w.heap.size+1) (w.heap.size+1) w1 V1):=yb (by rw[b7];exact u.o.trans (j.o.bx.mono (by have:=c.o;omega)))
   have J:Hid (V1.heap[w.heap.size+1]?=some (.cells ([Ah.v B,Ah.v ⟨none,0,0⟩,Ah.v ⟨none,0,0⟩,Ah.v ⟨none,0,0⟩]:LV).toArray 44 (0,0))):=yb (by rw[b7];exact j.o.row)
   have M:Hid (Ls (fun k=>w.heap.size+2<=k∧k < V1.heap.size) V1 B ⟨none,0,0⟩ ⟨none,0,0⟩ ⟨none,0,0⟩ ⟨(x.lets.map (·.name)),[],[],[]⟩):=yb (by
    rw[b7]
    have h:=a2.o.to (G':=fun k=>w.heap.size+2<=k∧k < wr.heap.size) (fun k hk=>j.o.bx.block k hk.2 (by have:=hk.1;omega)) j.o.bx.size (fun k hk=>⟨hk.1,yp hk.2 j.o.bx.size⟩)
    exact ⟨⟨by rw[<-ay.o];exact g,fun b o i hb=>⟨by have:=(a0 b o i hb).1;have:=c.o;omega,(a0 b o i hb).2⟩⟩,h.crops,h.reaches,h.farms⟩)
   clear j c u T a2 aj g a0 HI ad hi af HR HN A s hf am
   rw[<-b7]
   clear b7
   have c:=G;have u:=O;have T:=J;have a2:=M
   clear G O J M
   go_wp2
   refine hK.o _ _ ?_
   obtain ⟨⟨ha,y,hc⟩,hL⟩:∃h:Ah,L.crops=h:=⟨_,rfl⟩
   obtain ⟨a,f⟩:∃l:LB,l=(x.crops.map (·.name)):=⟨_,rfl⟩
   have A:Hid (a.length<=300):=yb (by have:=bb.o.crops;rw[f];simp;omega)
   have Y:AM w ⟨ha,y,hc⟩ 7 0 a:=by have h:=P.o.crops;rw[hL] at h;rw[f];exact h
   have HR:=yb Y.2.2
   have HN:Hid (y=a.length):=yb Y.1
   have am:y<=140737488355328:=by have:=HN.o;have:=A.o;omega
   have ay:=yb f
   have s:Hid (cs[20]?=some (.slice ha y hc)):=yb (by have h:=bg.o.crops;rw[hL] at h;exact h)
   clear Y hL f
   have hf:V1.cell? (aV w.heap.size 20)=some (.slice ha y hc):=by
    have e:=(u.o.block w.heap.size (by omega) (by omega)).trans bd.o
    simp only[World.cell?,e]
    simpa using s.o
   obtain ⟨I,hI⟩:∃I:Nat->World->Prop,I=fun i wr=>∃v,DI (w.heap.size+1) V1.heap.size V1 [Ah.v B] [Ah.v ⟨none,0,0⟩,Ah.v ⟨none,0,0⟩] (a.take i) v wr:=⟨_,rfl⟩
   have HI:=yb hI
   have al:Hid (I 0 V1):=yb (by
    rw[hI]
    exact ⟨.slice none 0 0,T.o,by simpa using G3 _ _,BX.refl _ _ _⟩)
   clear hI
   refine Ap fun K hK=>?_
   go_wp2
   go_loopw [29] (fun iv wr=>∃i:Nat,iv=iV i∧i<=y∧Hid (I i wr)) (fun iv _=>y - (intOf iv).toNat)
   case atStart=>exact ⟨0,rfl,yz _,al⟩
   case round=>
    clear al
    obtain ⟨i,rfl,hi,HJ⟩:=hrel
    obtain ⟨v,hD⟩:∃v,DI (w.heap.size+1) V1.heap.size V1 [Ah.v B] [Ah.v ⟨none,0,0⟩,Ah.v ⟨none,0,0⟩] (a.take i) v wr:=by have h:=HJ.o;rw[HI.o] at h;exact h
    have j:=yb hD
    clear HJ hD
    by_cases af:i < y
    ·have R:i < a.length:=by rw[<-HN.o];exact af
     have ad:(i:Int) < (y:Int):=by omega
     obtain ⟨b,o,S,he,V,F,ag,H,g,Q⟩:=HR.o i R
     obtain rfl:ha=some (aV b o):=he
     have d:Hid (a.take (i+1)=a.take i++[a[i]]):=yb (yq R)
     have ah:Hid ((a.take i).length+1<=1000000):=yb (by have:=A.o;rw[yM];omega)
     generalize a[i]=nm at g Q d
     generalize av:a.take i=l0 at j ah d
     clear av
     have ab:Hid (wr.rangeAt b (o+i*7) S):=yb (A3 ag (((j.o.bx.block b (yp V (by have:=c.o;omega)) (by omega))).trans ((u.o.block b (by omega) (by omega)).trans (b9.o.block b V))))
     have C:=yb F;have ak:=yb H;have P:=yb g;have aq:=yb Q
     have a7:Hid (V1.heap.size<=wr.heap.size):=yb j.o.bx.size
     have a6:Hid (w.heap.size+1 < wr.heap.size):=yb (by have:=a7.o;have:=c.o;omega)
     clear ag F H g Q V R
     go_upto_region 9 with (first
      |(with_reducible refine yj rfl 57 _ rfl b (o+i*7) (by kernel_rfl) S _ ab.o qI (by kernel_rfl) (Cl (n:=7) (by kernel_rfl) C.o) ?_)
      |(with_reducible refine Ae rfl 57 _ _ rfl wr.heap.size (by kernel_rfl) S (by kernel_rfl) (World.alloc_heap_new _ _) (by rw[yB,C.o];kernel_rfl) (Cl (n:=7) (by kernel_rfl) C.o) ak.o ?_;intro W ai;have U:=yb ai;clear ai))
     have a8:Hid (Below wr.heap.size wr W):=yb (Az U.o)
     have bk:W.cell? (aV wr.heap.size 0)=some (.string nm):=by
      have h:=Ax U.o.row
      have:=h 0 _ P.o
      simpa using this
     have E:=yb (j.o.up a6.o a7.o a8.o)
     have bh:W.cell? (aV (w.heap.size+1) 1)=some v:=by
      have h:=E.o.row
      simp only[World.cell?,h]
      simp
     clear U ab C ak P
     have Z:Hid (V1.heap.size<=(W.alloc (.cells #[.string nm] 9)).heap.size):=yb (by have:=E.o.bx.size;simp;omega)
     have D:=yb (E.o.up (yp a6.o a8.o.size) E.o.bx.size ((yg _ _).alloc (ye _) (.cells #[.string nm] 9)))
     have aa:Hid ((W.alloc (.cells #[.string nm] 9)).heap[W.heap.size]?=some (.cells #[.string nm] 9 (0,0))):=yb (World.alloc_heap_new _ _)
     have ac:Hid (w.heap.size+1 < V1.heap.size):=yb (by have:=c.o;omega)
     go_wp2_with (first
      |(at_builtin;refine Ck V1.heap.size rfl _ _ rfl v l0 rfl D.o.own W.heap.size 1 nm rfl aa.o aq.o ah.o Z.o ?_;intro ax c5 w5 an X;have aw:=yb an;have au:=yb X;have ar:=yb ((I0 X D.o.own ac.o Z.o).trans D.o.row);clear an X)
      |(with_reducible refine Ag rfl 43 _ _ rfl (w.heap.size+1) 1 (by kernel_rfl) (.slice ax (l0.length+1) c5) (by kernel_rfl) (by kernel_rfl) (p:=[Ah.v B]) (m:=v) (q:=[Ah.v ⟨none,0,0⟩,Ah.v ⟨none,0,0⟩]) (t:=44) ar.o (by kernel_rfl) (by kernel_rfl) (by kernel_rfl) ?_;intro w6 ae;have az:=yb ae;clear ae))
     exact ⟨⟨i+1,by push_cast;rfl,by omega,yb (by rw[HI.o];exact ⟨_,by rw[d.o];exact D.o.put ac.o Z.o aw.o au.o az.o⟩)⟩,by simp[intOf];omega⟩
    ·obtain rfl:i=y:=by omega
     have ad:decide ((i:Int) < (i:Int))=false:=by simp
     have aj:Dk V1.heap.size wr v a:=by
      have h:=j.o.own
      rw[HN.o,yw] at h
      exact h
     obtain ⟨a1,rfl,g,a0⟩:=K6 aj (by have:=A.o;omega)
     obtain ⟨V2,b5⟩:∃z:World,z=wr:=⟨_,rfl⟩
     have G:Hid (w.heap.size+2<=V2.heap.size):=yb (by rw[b5];have:=j.o.bx.size;have:=c.o;omega)
     have O:Hid (BX (fun k=>k=w.heap.size+1) (w.heap.size+1) w1 V2):=yb (by rw[b5];exact u.o.trans (j.o.bx.mono (by have:=c.o;omega)))
     have J:Hid (V2.heap[w.heap.size+1]?=some (.cells ([Ah.v B,Ah.v a1,Ah.v ⟨none,0,0⟩,Ah.v ⟨none,0,0⟩]:LV).toArray 44 (0,0))):=yb (by rw[b5];exact j.o.row)
     have M:Hid (Ls (fun k=>w.heap.size+2<=k∧k < V2.heap.size) V2 B a1 ⟨none,0,0⟩ ⟨none,0,0⟩ ⟨(x.lets.map (·.name)),(x.crops.map (·.name)),[],[]⟩):=yb (by
      rw[b5]
      have h:=a2.o.to (G':=fun k=>w.heap.size+2<=k∧k < wr.heap.size) (fun k hk=>j.o.bx.block k hk.2 (by have:=hk.1;omega)) j.o.bx.size (fun k hk=>⟨hk.1,yp hk.2 j.o.bx.size⟩)
      exact ⟨h.lets,⟨by rw[<-ay.o];exact g,fun b o i hb=>⟨by have:=(a0 b o i hb).1;have:=c.o;omega,(a0 b o i hb).2⟩⟩,h.reaches,h.farms⟩)
     clear j c u T a2 aj g a0 HI ad hi af HR HN A s hf am
     rw[<-b5]
     clear b5
     have c:=G;have u:=O;have T:=J;have a2:=M
     clear G O J M
     go_wp2
     refine hK.o _ _ ?_
     obtain ⟨⟨ha,y,hc⟩,hL⟩:∃h:Ah,L.reaches=h:=⟨_,rfl⟩
     obtain ⟨a,f⟩:∃l:LB,l=(x.reaches.map (·.name)):=⟨_,rfl⟩
     have A:Hid (a.length<=300):=yb (by have:=bb.o.reaches;rw[f];simp;omega)
     have Y:AM w ⟨ha,y,hc⟩ 51 0 a:=by have h:=P.o.reaches;rw[hL] at h;rw[f];exact h
     have HR:=yb Y.2.2
     have HN:Hid (y=a.length):=yb Y.1
     have am:y<=140737488355328:=by have:=HN.o;have:=A.o;omega
     have ay:=yb f
     have s:Hid (cs[21]?=some (.slice ha y hc)):=yb (by have h:=bg.o.reaches;rw[hL] at h;exact h)
     clear Y hL f
     have hf:V2.cell? (aV w.heap.size 21)=some (.slice ha y hc):=by
      have e:=(u.o.block w.heap.size (by omega) (by omega)).trans bd.o
      simp only[World.cell?,e]
      simpa using s.o
     obtain ⟨I,hI⟩:∃I:Nat->World->Prop,I=fun i wr=>∃v,DI (w.heap.size+1) V2.heap.size V2 [Ah.v B,Ah.v a1] [Ah.v ⟨none,0,0⟩] (a.take i) v wr:=⟨_,rfl⟩
     have HI:=yb hI
     have al:Hid (I 0 V2):=yb (by
      rw[hI]
      exact ⟨.slice none 0 0,T.o,by simpa using G3 _ _,BX.refl _ _ _⟩)
     clear hI
     refine Ap fun K hK=>?_
     go_wp2
     go_loopw [44] (fun iv wr=>∃i:Nat,iv=iV i∧i<=y∧Hid (I i wr)) (fun iv _=>y - (intOf iv).toNat)
     case atStart=>exact ⟨0,rfl,yz _,al⟩
     case round=>
      clear al
      obtain ⟨i,rfl,hi,HJ⟩:=hrel
      obtain ⟨v,hD⟩:∃v,DI (w.heap.size+1) V2.heap.size V2 [Ah.v B,Ah.v a1] [Ah.v ⟨none,0,0⟩] (a.take i) v wr:=by have h:=HJ.o;rw[HI.o] at h;exact h
      have j:=yb hD
      clear HJ hD
      by_cases af:i < y
      ·have R:i < a.length:=by rw[<-HN.o];exact af
       have ad:(i:Int) < (y:Int):=by omega
       obtain ⟨b,o,S,he,V,F,ag,H,g,Q⟩:=HR.o i R
       obtain rfl:ha=some (aV b o):=he
       have d:Hid (a.take (i+1)=a.take i++[a[i]]):=yb (yq R)
       have ah:Hid ((a.take i).length+1<=1000000):=yb (by have:=A.o;rw[yM];omega)
       generalize a[i]=nm at g Q d
       generalize av:a.take i=l0 at j ah d
       clear av
       have ab:Hid (wr.rangeAt b (o+i*51) S):=yb (A3 ag (((j.o.bx.block b (yp V (by have:=c.o;omega)) (by omega))).trans ((u.o.block b (by omega) (by omega)).trans (b9.o.block b V))))
       have C:=yb F;have ak:=yb H;have P:=yb g;have aq:=yb Q
       have a7:Hid (V2.heap.size<=wr.heap.size):=yb j.o.bx.size
       have a6:Hid (w.heap.size+1 < wr.heap.size):=yb (by have:=a7.o;have:=c.o;omega)
       clear ag F H g Q V R
       go_upto_region 14 with (first
        |(with_reducible refine yj rfl 51 _ rfl b (o+i*51) (by kernel_rfl) S _ ab.o qG (by kernel_rfl) (Cl (n:=51) (by kernel_rfl) C.o) ?_)
        |(with_reducible refine Ae rfl 51 _ _ rfl wr.heap.size (by kernel_rfl) S (by kernel_rfl) (World.alloc_heap_new _ _) (by rw[yB,C.o];kernel_rfl) (Cl (n:=51) (by kernel_rfl) C.o) ak.o ?_;intro W ai;have U:=yb ai;clear ai))
       have a8:Hid (Below wr.heap.size wr W):=yb (Az U.o)
       have bk:W.cell? (aV wr.heap.size 0)=some (.string nm):=by
        have h:=Ax U.o.row
        have:=h 0 _ P.o
        simpa using this
       have E:=yb (j.o.up a6.o a7.o a8.o)
       have bh:W.cell? (aV (w.heap.size+1) 2)=some v:=by
        have h:=E.o.row
        simp only[World.cell?,h]
        simp
       clear U ab C ak P
       have Z:Hid (V2.heap.size<=(W.alloc (.cells #[.string nm] 9)).heap.size):=yb (by have:=E.o.bx.size;simp;omega)
       have D:=yb (E.o.up (yp a6.o a8.o.size) E.o.bx.size ((yg _ _).alloc (ye _) (.cells #[.string nm] 9)))
       have aa:Hid ((W.alloc (.cells #[.string nm] 9)).heap[W.heap.size]?=some (.cells #[.string nm] 9 (0,0))):=yb (World.alloc_heap_new _ _)
       have ac:Hid (w.heap.size+1 < V2.heap.size):=yb (by have:=c.o;omega)
       go_wp2_with (first
        |(at_builtin;refine Ck V2.heap.size rfl _ _ rfl v l0 rfl D.o.own W.heap.size 1 nm rfl aa.o aq.o ah.o Z.o ?_;intro ax c5 w5 an X;have aw:=yb an;have au:=yb X;have ar:=yb ((I0 X D.o.own ac.o Z.o).trans D.o.row);clear an X)
        |(with_reducible refine Ag rfl 43 _ _ rfl (w.heap.size+1) 2 (by kernel_rfl) (.slice ax (l0.length+1) c5) (by kernel_rfl) (by kernel_rfl) (p:=[Ah.v B,Ah.v a1]) (m:=v) (q:=[Ah.v ⟨none,0,0⟩]) (t:=44) ar.o (by kernel_rfl) (by kernel_rfl) (by kernel_rfl) ?_;intro w6 ae;have az:=yb ae;clear ae))
       exact ⟨⟨i+1,by push_cast;rfl,by omega,yb (by rw[HI.o];exact ⟨_,by rw[d.o];exact D.o.put ac.o Z.o aw.o au.o az.o⟩)⟩,by simp[intOf];omega⟩
      ·obtain rfl:i=y:=by omega
       have ad:decide ((i:Int) < (i:Int))=false:=by simp
       have aj:Dk V2.heap.size wr v a:=by
        have h:=j.o.own
        rw[HN.o,yw] at h
        exact h
       obtain ⟨ao,rfl,g,a0⟩:=K6 aj (by have:=A.o;omega)
       obtain ⟨V3,b3⟩:∃z:World,z=wr:=⟨_,rfl⟩
       have G:Hid (w.heap.size+2<=V3.heap.size):=yb (by rw[b3];have:=j.o.bx.size;have:=c.o;omega)
       have O:Hid (BX (fun k=>k=w.heap.size+1) (w.heap.size+1) w1 V3):=yb (by rw[b3];exact u.o.trans (j.o.bx.mono (by have:=c.o;omega)))
       have J:Hid (V3.heap[w.heap.size+1]?=some (.cells ([Ah.v B,Ah.v a1,Ah.v ao,Ah.v ⟨none,0,0⟩]:LV).toArray 44 (0,0))):=yb (by rw[b3];exact j.o.row)
       have M:Hid (Ls (fun k=>w.heap.size+2<=k∧k < V3.heap.size) V3 B a1 ao ⟨none,0,0⟩ ⟨(x.lets.map (·.name)),(x.crops.map (·.name)),(x.reaches.map (·.name)),[]⟩):=yb (by
        rw[b3]
        have h:=a2.o.to (G':=fun k=>w.heap.size+2<=k∧k < wr.heap.size) (fun k hk=>j.o.bx.block k hk.2 (by have:=hk.1;omega)) j.o.bx.size (fun k hk=>⟨hk.1,yp hk.2 j.o.bx.size⟩)
        exact ⟨h.lets,h.crops,⟨by rw[<-ay.o];exact g,fun b o i hb=>⟨by have:=(a0 b o i hb).1;have:=c.o;omega,(a0 b o i hb).2⟩⟩,h.farms⟩)
       clear j c u T a2 aj g a0 HI ad hi af HR HN A s hf am
       rw[<-b3]
       clear b3
       have c:=G;have u:=O;have T:=J;have a2:=M
       clear G O J M
       go_wp2
       refine hK.o _ _ ?_
       obtain ⟨⟨ha,y,hc⟩,hL⟩:∃h:Ah,L.farms=h:=⟨_,rfl⟩
       obtain ⟨a,f⟩:∃l:LB,l=(x.farms.map (·.name)):=⟨_,rfl⟩
       have A:Hid (a.length<=300):=yb (by have:=bb.o.farms;rw[f];simp;omega)
       have Y:AM w ⟨ha,y,hc⟩ 12 0 a:=by have h:=P.o.farms;rw[hL] at h;rw[f];exact h
       have HR:=yb Y.2.2
       have HN:Hid (y=a.length):=yb Y.1
       have am:y<=140737488355328:=by have:=HN.o;have:=A.o;omega
       have ay:=yb f
       have s:Hid (cs[22]?=some (.slice ha y hc)):=yb (by have h:=bg.o.farms;rw[hL] at h;exact h)
       clear Y hL f
       have hf:V3.cell? (aV w.heap.size 22)=some (.slice ha y hc):=by
        have e:=(u.o.block w.heap.size (by omega) (by omega)).trans bd.o
        simp only[World.cell?,e]
        simpa using s.o
       obtain ⟨I,hI⟩:∃I:Nat->World->Prop,I=fun i wr=>∃v,DI (w.heap.size+1) V3.heap.size V3 [Ah.v B,Ah.v a1,Ah.v ao] [] (a.take i) v wr:=⟨_,rfl⟩
       have HI:=yb hI
       have al:Hid (I 0 V3):=yb (by
        rw[hI]
        exact ⟨.slice none 0 0,T.o,by simpa using G3 _ _,BX.refl _ _ _⟩)
       clear hI
       refine Ap fun K hK=>?_
       go_wp2
       go_loopw [59] (fun iv wr=>∃i:Nat,iv=iV i∧i<=y∧Hid (I i wr)) (fun iv _=>y - (intOf iv).toNat)
       case atStart=>exact ⟨0,rfl,yz _,al⟩
       case round=>
        clear al
        obtain ⟨i,rfl,hi,HJ⟩:=hrel
        obtain ⟨v,hD⟩:∃v,DI (w.heap.size+1) V3.heap.size V3 [Ah.v B,Ah.v a1,Ah.v ao] [] (a.take i) v wr:=by have h:=HJ.o;rw[HI.o] at h;exact h
        have j:=yb hD
        clear HJ hD
        by_cases af:i < y
        ·have R:i < a.length:=by rw[<-HN.o];exact af
         have ad:(i:Int) < (y:Int):=by omega
         obtain ⟨b,o,S,he,V,F,ag,H,g,Q⟩:=HR.o i R
         obtain rfl:ha=some (aV b o):=he
         have d:Hid (a.take (i+1)=a.take i++[a[i]]):=yb (yq R)
         have ah:Hid ((a.take i).length+1<=1000000):=yb (by have:=A.o;rw[yM];omega)
         generalize a[i]=nm at g Q d
         generalize av:a.take i=l0 at j ah d
         clear av
         have ab:Hid (wr.rangeAt b (o+i*12) S):=yb (A3 ag (((j.o.bx.block b (yp V (by have:=c.o;omega)) (by omega))).trans ((u.o.block b (by omega) (by omega)).trans (b9.o.block b V))))
         have C:=yb F;have ak:=yb H;have P:=yb g;have aq:=yb Q
         have a7:Hid (V3.heap.size<=wr.heap.size):=yb j.o.bx.size
         have a6:Hid (w.heap.size+1 < wr.heap.size):=yb (by have:=a7.o;have:=c.o;omega)
         clear ag F H g Q V R
         go_upto_region 19 with (first
          |(with_reducible refine yj rfl 59 _ rfl b (o+i*12) (by kernel_rfl) S _ ab.o qJ (by kernel_rfl) (Cl (n:=12) (by kernel_rfl) C.o) ?_)
          |(with_reducible refine Ae rfl 59 _ _ rfl wr.heap.size (by kernel_rfl) S (by kernel_rfl) (World.alloc_heap_new _ _) (by rw[yB,C.o];kernel_rfl) (Cl (n:=12) (by kernel_rfl) C.o) ak.o ?_;intro W ai;have U:=yb ai;clear ai))
         have a8:Hid (Below wr.heap.size wr W):=yb (Az U.o)
         have bk:W.cell? (aV wr.heap.size 0)=some (.string nm):=by
          have h:=Ax U.o.row
          have:=h 0 _ P.o
          simpa using this
         have E:=yb (j.o.up a6.o a7.o a8.o)
         have bh:W.cell? (aV (w.heap.size+1) 3)=some v:=by
          have h:=E.o.row
          simp only[World.cell?,h]
          simp
         clear U ab C ak P
         have Z:Hid (V3.heap.size<=(W.alloc (.cells #[.string nm] 9)).heap.size):=yb (by have:=E.o.bx.size;simp;omega)
         have D:=yb (E.o.up (yp a6.o a8.o.size) E.o.bx.size ((yg _ _).alloc (ye _) (.cells #[.string nm] 9)))
         have aa:Hid ((W.alloc (.cells #[.string nm] 9)).heap[W.heap.size]?=some (.cells #[.string nm] 9 (0,0))):=yb (World.alloc_heap_new _ _)
         have ac:Hid (w.heap.size+1 < V3.heap.size):=yb (by have:=c.o;omega)
         go_wp2_with (first
          |(at_builtin;refine Ck V3.heap.size rfl _ _ rfl v l0 rfl D.o.own W.heap.size 1 nm rfl aa.o aq.o ah.o Z.o ?_;intro ax c5 w5 an X;have aw:=yb an;have au:=yb X;have ar:=yb ((I0 X D.o.own ac.o Z.o).trans D.o.row);clear an X)
          |(with_reducible refine Ag rfl 43 _ _ rfl (w.heap.size+1) 3 (by kernel_rfl) (.slice ax (l0.length+1) c5) (by kernel_rfl) (by kernel_rfl) (p:=[Ah.v B,Ah.v a1,Ah.v ao]) (m:=v) (q:=[]) (t:=44) ar.o (by kernel_rfl) (by kernel_rfl) (by kernel_rfl) ?_;intro w6 ae;have az:=yb ae;clear ae))
         exact ⟨⟨i+1,by push_cast;rfl,by omega,yb (by rw[HI.o];exact ⟨_,by rw[d.o];exact D.o.put ac.o Z.o aw.o au.o az.o⟩)⟩,by simp[intOf];omega⟩
        ·obtain rfl:i=y:=by omega
         have ad:decide ((i:Int) < (i:Int))=false:=by simp
         have aj:Dk V3.heap.size wr v a:=by
          have h:=j.o.own
          rw[HN.o,yw] at h
          exact h
         obtain ⟨be,rfl,g,a0⟩:=K6 aj (by have:=A.o;omega)
         obtain ⟨V4,b8⟩:∃z:World,z=wr:=⟨_,rfl⟩
         have G:Hid (w.heap.size+2<=V4.heap.size):=yb (by rw[b8];have:=j.o.bx.size;have:=c.o;omega)
         have O:Hid (BX (fun k=>k=w.heap.size+1) (w.heap.size+1) w1 V4):=yb (by rw[b8];exact u.o.trans (j.o.bx.mono (by have:=c.o;omega)))
         have J:Hid (V4.heap[w.heap.size+1]?=some (.cells ([Ah.v B,Ah.v a1,Ah.v ao,Ah.v be]:LV).toArray 44 (0,0))):=yb (by rw[b8];exact j.o.row)
         have M:Hid (Ls (fun k=>w.heap.size+2<=k∧k < V4.heap.size) V4 B a1 ao be ⟨(x.lets.map (·.name)),(x.crops.map (·.name)),(x.reaches.map (·.name)),(x.farms.map (·.name))⟩):=yb (by
          rw[b8]
          have h:=a2.o.to (G':=fun k=>w.heap.size+2<=k∧k < wr.heap.size) (fun k hk=>j.o.bx.block k hk.2 (by have:=hk.1;omega)) j.o.bx.size (fun k hk=>⟨hk.1,yp hk.2 j.o.bx.size⟩)
          exact ⟨h.lets,h.crops,h.reaches,⟨by rw[<-ay.o];exact g,fun b o i hb=>⟨by have:=(a0 b o i hb).1;have:=c.o;omega,(a0 b o i hb).2⟩⟩⟩)
         clear j c u T a2 aj g a0 HI ad hi af HR HN A s hf am
         rw[<-b8]
         clear b8
         have c:=G;have u:=O;have T:=J;have a2:=M
         clear G O J M
         go_wp2
         refine hK.o _ _ ?_
         refine wp_seq ?_
         obtain ⟨row,ap⟩:∃r:LV,r=[Ah.v B,Ah.v a1,Ah.v ao,Ah.v be]:=⟨_,rfl⟩
         have bi:Hid (row.length=4):=yb (by rw[ap];rfl)
         have bs:Hid (∀v∈row,v.oneCell'=true):=yb (by rw[ap];simp[Ah.v,Value.oneCell'])
         have bm:Hid (V4.heap[w.heap.size+1]?=some (.cells row.toArray 44 (0,0))):=yb (by rw[ap];exact T.o)
         have bq:=yb ap
         clear ap T
         go_wp2_with (first
          |(refine yj rfl 44 _ rfl (w.heap.size+1) 0 rfl row _ (Ax bm.o) qD rfl (Cl (n:=4) (by kernel_rfl) bi.o) ?_)
          |(refine Ae rfl 44 _ _ rfl (w.heap.size+1) rfl row rfl bm.o (by rw[yB]) (Cl (n:=4) (by kernel_rfl) bi.o) bs.o ?_;intro w9 bp;have ba:=yb bp;clear bp))
         refine Fp rfl rfl ba.o.row qD rfl (Cl (n:=4) (by kernel_rfl) bi.o) ?_
         refine ⟨B,a1,ao,be,by rw[bq.o],?_,?_⟩
         ·exact a2.o.to (fun k hk=>ba.o.block k (by have:=hk.1;omega)) (by rw[ba.o.size];exact ye _) (fun k hk=>⟨by have:=hk.1;omega,by rw[ba.o.size];exact hk.2⟩)
         ·have h4:=(u.o.mono (C':=w.heap.size) (by omega))
          have h5:Below w.heap.size w1 V4:=⟨h4.os,h4.tape,h4.output,h4.size,fun b hb=>h4.block b hb (by omega)⟩
          exact ba.o.below (b9.o.trans h5) (by omega)
set_option linter.unusedSimpArgs false
def UD(a b:Nat):Array Value:=#[.pointer (some ⟨a,0,none⟩),.pointer (some ⟨b,0,none⟩)]
def U2(s e k:Nat):Prop:=s<=k∧k < e
def UE(h:Ah × Ah × Ah × Ah)(n:Nat):Ah:=if n=0 then h.1 else if n=1 then h.2.1 else if n=2 then h.2.2.1 else h.2.2.2
structure UG (s0 Ba Bo:Nat) (h:Ah × Ah × Ah × Ah) (t:Tb) (b:Bool) (W:World):Prop where
 all:W.heap[Ba]?=some (.cells #[h.1.v,h.2.1.v,h.2.2.1.v,h.2.2.2.v] 44 (0,0))
 ok:W.heap[Bo]?=some (.cells #[.bool b] 4 (0,0))
 d:Ls (U2 s0 Ba) W h.1 h.2.1 h.2.2.1 h.2.2.2 t
theorem Pn{N J j:Nat}{h:Ah × Ah × Ah × Ah}{t:Tb}(hs:N<=J)(X:J < j){b:Bool}{W:World}{c:Int}{B o:Nat}{p:LV}{r:Rf}{s:LV}{ty:TypeId}(z:UG N J j h t b W)
 (hW:W.heap[B]?=some (.cells (p++(Am r++s)).toArray ty (0,0)))(hp:p.length=o)(hB:¬ U2 N (j+1) B)(h0:0<=c)(h3:c<=3):
  Calls Try.prog 18 #[.int .i64 c,.pointer (some ⟨B,o,none⟩),.pointer (some ⟨J,0,none⟩),.pointer (some ⟨j,0,none⟩)] W
   fun e W'=>e=.returned (.tuple #[])∧UG N J j h t (b&&FQ t c r) W'∧WX (U2 N (j+1)) W W' B (p++(Am r++s)) ty:=by
 obtain ⟨l,rfl⟩:∃n:Nat,c=(n:Int):=⟨c.toNat,by omega⟩
 have af:l < 4:=by omega
 have u:W.cell? (aV J l)=some (UE h l).v:=by
  simp only[World.cell?,z.all]
  unfold UE
  obtain rfl|rfl|rfl|rfl:l=0∨l=1∨l=2∨l=3:=by omega
  all_goals rfl
 have g:Tl (U2 N J) W (UE h l) (t.at l):=by
  unfold UE Tb.at
  obtain rfl|rfl|rfl|rfl:l=0∨l=1∨l=2∨l=3:=by omega
  ·exact z.d.lets
  ·exact z.d.crops
  ·exact z.d.reaches
  ·exact z.d.farms
 have HQ:Hid (FQ t l r=Ji (t.at l) r):=yb rfl
 generalize FQ t l r=Q at HQ ⊢
 generalize UE h l=hd at u g
 generalize t.at l=a at g HQ
 obtain ⟨ha,L,hc⟩:=hd
 obtain ⟨rn,ri⟩:=r
 have HR:=yb g.nm.2.2
 have Z:Hid (L=a.length):=yb g.nm.1
 have ad:L<=140737488355328:=by rw[show L=a.length from g.nm.1];exact g.nm.2.1
 have U:=Ax hW
 have K:=AX U
 rw[hp,yA] at K
 have ah:W.cell? (aV B o)=some (.string rn):=by
  have:=K 0 (.string rn) rfl
  simpa using this
 have ak:W.cell? (aV B (o+1))=some (iV ri):=K 1 (iV ri) rfl
 have ai:W.cell? (aV j 0)=some (.bool b):=by simp[World.cell?,z.ok]
 have ae:W.frozen? (aV j 0)=false:=by simp[World.frozen?,z.ok]
 have HJ:=yb z;have HW:=yb hW;have HB:=yb hB;have HS:=yb hs;have O:=yb X;have HP:=yb hp
 have ac:(l:Int) < 4:=by omega
 unfold Ah.v at u
 simp only at u
 clear z hW hB hs X hp g U K h0 h3
 go_enter Try.func18,Try.ntmps18
 go_wp2
 go_loopw [6,13] (fun v6 iv wr=>∃i:Nat,i<=L∧iv=iV i∧v6=iV (EN (a.take i) rn)∧wr=W) (fun _ iv _=>L - (intOf iv).toNat)
 case atStart=>exact ⟨0,yz _,rfl,rfl,rfl⟩
 case round=>
  obtain ⟨i,hi,rfl,rfl,rfl⟩:=hrel
  by_cases a7:i < L
  ·have T:i < a.length:=by rw[<-Z.o];exact a7
   have a1:(i:Int) < (L:Int):=by omega
   obtain ⟨bb,oo,cs,rfl,hb,hl,E,D,g,x⟩:=HR.o i T
   have G:wr.cell? (aV bb (oo+i))=some (.string a[i]):=by
    have:=E 0 _ g
    simpa using this
   have y:=QS (s:=rn) T
   have V:EN (a.take i) rn<=140737488355328:=yr (Q8 _ _) (by rw[yM];omega)
   clear E D g x hl hb
   by_cases A:a[i]=rn
   ·rw[yx A] at y
    rw[A] at G
    have F:=yb y
    generalize EN (a.take i) rn=m at V F
    clear y A
    go_wp2
    refine ⟨⟨i+1,by omega,by push_cast;rfl,by rw[F.o];push_cast;rfl,trivial⟩,by simp[intOf];omega⟩
   ·rw[yu A,xR] at y
    have F:=yb y
    have S:(a[i].toList==rn.toList)=false:=by
     rw[beq_eq_false_iff_ne];exact fun h=>A (Ie.1 h)
    generalize a[i]=nm at G S
    generalize EN (a.take i) rn=m at V F
    clear y A
    go_wp2
    refine ⟨⟨i+1,by omega,by push_cast;rfl,by rw[F.o];rfl,trivial⟩,by simp[intOf];omega⟩
  ·obtain rfl:i=L:=by omega
   have a1:decide ((i:Int) < (i:Int))=false:=by simp
   have Y:Hid (a.take i=a):=yb (by rw[Z.o,yw])
   rw[Y.o]
   have ab:=yb (Q8 a rn)
   have w:Hid (Q=(decide ((EN a rn:Int)=1)&&(decide (0<=ri)&&(decide (ri < (i:Int))&&decide (a[ri.toNat]?=some rn))))):=yb (by rw[HQ.o];unfold Ji;rw[Z.o])
   have a2:Hid (i=a.length):=Z
   clear HQ hi
   generalize EN a rn=m at ab w
   go_upto_region 7 with fail
   have f:Hid (∀q:Bool,q=(b&&Q)->((UG N J j h t (b&&Q) (wr.setCell (aV j 0) (.bool q)).drew)∧WX (U2 N (j+1)) wr (wr.setCell (aV j 0) (.bool q)).drew B (p++(Am ⟨rn,ri⟩++s)) ty)):=yb (by
    intro q hq
    rw[<-hq]
    have z:=HJ.o
    have a0:J≠j:=by have:=O.o;omega
    have H:∀k,k≠j->(wr.setCell (aV j 0) (.bool q)).drew.heap[k]?=wr.heap[k]?:=fun k hk=>yY _ _ _ _ (fun e=>hk e)
    have x:(wr.setCell (aV j 0) (.bool q)).drew.heap.size=wr.heap.size:=by show (wr.setCell (aV j 0) (.bool q)).heap.size=_;simp
    have ag:=HS.o;have aj:=O.o
    refine ⟨⟨(H _ a0).trans z.all,?_,z.d.to (fun k hk=>H k (by have:=hk.2;omega)) (by rw[x];exact ye _) (fun _ h=>h)⟩,?_⟩
    ·show (wr.setCell (aV j 0) (.bool q)).heap[j]?=_
     rw[za wr j 0 _ _ _ z.ok]
     rfl
    ·have aa:B≠j:=fun e=>HB.o (by rw[e];exact ⟨by omega,by omega⟩)
     exact ⟨rfl,rfl,rfl,x,(H _ aa).trans HW.o,fun k _ hF=>H k (fun e=>hF (by rw[e];exact ⟨by omega,by omega⟩))⟩)
   have a6:=HR
   clear HJ HB HS O HP HW HR Y
   cases b with
   |false=>
    go_region
    go_wp2
    refine xT (zf rfl _ _ _) rfl ⟨rfl,f.o false rfl⟩
   |true=>
    by_cases hm:m=1
    ·have a8:((m:Int)==1)=true:=by simp[hm]
     by_cases M:0<=ri
     ·by_cases C:ri < (i:Int)
      ·obtain ⟨P,rfl⟩:∃k:Nat,ri=(k:Int):=⟨ri.toNat,by omega⟩
       have R:P < a.length:=by rw[<-a2.o];omega
       obtain ⟨bb,oo,cs,rfl,hb,hl,E,D,g,x⟩:=a6.o P R
       have G:wr.cell? (aV bb (oo+P))=some (.string a[P]):=by
        have:=E 0 _ g
        simpa using this
       clear E D g x hl hb
       by_cases A:a[P]=rn
       ·have I:Hid (true=(true&&Q)):=yb (by rw[w.o];simp[hm,C,R,A])
        rw[A] at G
        go_region
        go_wp2
        refine xT (zf rfl _ _ _) rfl ⟨rfl,f.o true I.o⟩
       ·have I:Hid (false=(true&&Q)):=yb (by rw[w.o];simp[R,A])
        have S:(a[P].toList==rn.toList)=false:=by
         rw[beq_eq_false_iff_ne];exact fun h=>A (Ie.1 h)
        generalize a[P]=nm at G S
        clear A
        go_region
        go_wp2
        refine xT (zf rfl _ _ _) rfl ⟨rfl,f.o false I.o⟩
      ·have I:Hid (false=(true&&Q)):=yb (by rw[w.o];simp[C])
       have hd:decide (ri < (i:Int))=false:=by simpa using C
       go_region
       go_wp2
       refine xT (zf rfl _ _ _) rfl ⟨rfl,f.o false I.o⟩
     ·have I:Hid (false=(true&&Q)):=yb (by rw[w.o];simp[M])
      have hd:decide (ri≥0)=false:=by simpa using M
      go_region
      go_wp2
      refine xT (zf rfl _ _ _) rfl ⟨rfl,f.o false I.o⟩
    ·have a8:((m:Int)==1)=false:=by simp;omega
     have I:Hid (false=(true&&Q)):=yb (by rw[w.o];simp;omega)
     go_region
     go_wp2
     refine xT (zf rfl _ _ _) rfl ⟨rfl,f.o false I.o⟩
theorem B8{id:Nat}{caps:Array Value}{F:NP}{g:Int->Rf->Rf}{q:Int->Rf->Bool}{J:Bool->World->Prop}(hc:JH id caps F g q J):∀e:Ex,Vk id caps F g q J e:=by
 refine Ih fun op I u rn ri args ih=>?_
 intro G b w cs hs H T l C
 rw[AW] at T
 obtain ⟨a,cap,rfl,hl,p,d⟩:=T
 rw[Bd] at hs
 rw[AS,AV,Oh,Oi]
 have r:∀k,F k->k < w.heap.size:=fun k A=>C k (l k A)
 by_cases h2:op=2
 ·subst h2
  rw[yx rfl,yx rfl,yx rfl,<-zc]
  obtain ⟨m,y⟩:∃m,m=args.length:=⟨_,rfl⟩
  rw[<-y]
  have D:=yb hs
  have O:=yb y
  have n:=yb d
  have N:=yb C
  have v:=yb l
  have S:=yb ih
  have s:=yb p
  have R:=yb H
  have t:=yb hc
  have j:=yb r
  clear d C l ih hl p H hc hs y r
  go_enter Try.func65,Try.ntmps65
  refine Ap fun Q i=>?_
  go_wp2
  refine i.o _ _ ?_
  clear i Q
  obtain ⟨w1,c⟩:∃w1,w1=((w.alloc (.cells #[iV 2,iV I,iV u,.string rn,iV ri,.slice a m cap] 26)).alloc (.cells qX 26)):=⟨_,rfl⟩
  rw[<-c]
  have f:=yb (Ug c)
  clear c
  obtain ⟨c0,c1,c2,W,X,U⟩:=QB f.o.box
  have x:Hid (J b w1):=yb (t.o.stab b w w1 R.o (fun k A=>f.o.below.block k (j.o k A)) f.o.below.size)
  have M:=yb (t.o.call b w1 0 w.heap.size 3 [iV 2,iV I,iV u] ⟨rn,ri⟩ [.slice a m cap] 26 x.o f.o.box rfl (fun h=>xA _ (j.o _ h)) s.o (by decide) (by decide))
  refine Ap fun K L=>?_
  go_wp2
  rw[t.o.enter,zR]
  refine M.o.mono ?_
  rintro e w2 ⟨rfl,E,B⟩
  have P:=yb E;have z:=yb B
  clear E B
  go_wp2
  refine L.o _ _ ?_
  exact Mj t.o O.o D.o.1 D.o.2 (t.o.name 0 ⟨rn,ri⟩ s.o) n.o v.o N.o S.o ⟨z.o.bx (.of f.o.below) (ye _),z.o.row,(z.o.block _ (by omega) (fun h=>by have:=j.o _ h;omega)).trans f.o.res⟩ P.o
 ·have V:(op==2)=false:=by simpa using h2
  rw[yu h2,yu h2,yu h2,qi]
  obtain ⟨m,y⟩:∃m,m=args.length:=⟨_,rfl⟩
  rw[<-y]
  have D:=yb hs
  have O:=yb y
  have n:=yb d
  have N:=yb C
  have v:=yb l
  have S:=yb ih
  have s:=yb p
  have R:=yb H
  have t:=yb hc
  have j:=yb r
  clear d C l ih hl p H hc hs y r
  go_enter Try.func65,Try.ntmps65
  refine Ap fun Q i=>?_
  go_wp2
  refine i.o _ _ ?_
  clear i Q
  obtain ⟨w1,c⟩:∃w1,w1=((w.alloc (.cells #[iV op,iV I,iV u,.string rn,iV ri,.slice a m cap] 26)).alloc (.cells qX 26)):=⟨_,rfl⟩
  rw[<-c]
  have f:=yb (Ug c)
  clear c
  obtain ⟨c0,c1,c2,W,X,U⟩:=QB f.o.box
  have x:Hid (J b w1):=yb (t.o.stab b w w1 R.o (fun k A=>f.o.below.block k (j.o k A)) f.o.below.size)
  refine Ap fun K L=>?_
  go_wp2
  refine L.o _ _ ?_
  exact Mj t.o O.o D.o.1 D.o.2 s.o n.o v.o N.o S.o ⟨.of f.o.below,f.o.box,f.o.res⟩ x.o
def Jj(u:Nat->Value):Array Value:=((List.range 303).map u).toArray
theorem FE(u:Nat->Value):Jj u=#[u 0,u 1,u 2,u 3,u 4,u 5,u 6,u 7,u 8,u 9,u 10,u 11,u 12,u 13,u 14,u 15,u 16,u 17,u 18,u 19,u 20,u 21,u 22,u 23,u 24,u 25,u 26,u 27,u 28,u 29,u 30,u 31,u 32,u 33,u 34,u 35,u 36,u 37,u 38,u 39,u 40,u 41,u 42,u 43,u 44,u 45,u 46,u 47,u 48,u 49,u 50,u 51,u 52,u 53,u 54,u 55,u 56,u 57,u 58,u 59,u 60,u 61,u 62,u 63,u 64,u 65,u 66,u 67,u 68,u 69,u 70,u 71,u 72,u 73,u 74,u 75,u 76,u 77,u 78,u 79,u 80,u 81,u 82,u 83,u 84,u 85,u 86,u 87,u 88,u 89,u 90,u 91,u 92,u 93,u 94,u 95,u 96,u 97,u 98,u 99,u 100,u 101,u 102,u 103,u 104,u 105,u 106,u 107,u 108,u 109,u 110,u 111,u 112,u 113,u 114,u 115,u 116,u 117,u 118,u 119,u 120,u 121,u 122,u 123,u 124,u 125,u 126,u 127,u 128,u 129,u 130,u 131,u 132,u 133,u 134,u 135,u 136,u 137,u 138,u 139,u 140,u 141,u 142,u 143,u 144,u 145,u 146,u 147,u 148,u 149,u 150,u 151,u 152,u 153,u 154,u 155,u 156,u 157,u 158,u 159,u 160,u 161,u 162,u 163,u 164,u 165,u 166,u 167,u 168,u 169,u 170,u 171,u 172,u 173,u 174,u 175,u 176,u 177,u 178,u 179,u 180,u 181,u 182,u 183,u 184,u 185,u 186,u 187,u 188,u 189,u 190,u 191,u 192,u 193,u 194,u 195,u 196,u 197,u 198,u 199,u 200,u 201,u 202,u 203,u 204,u 205,u 206,u 207,u 208,u 209,u 210,u 211,u 212,u 213,u 214,u 215,u 216,u 217,u 218,u 219,u 220,u 221,u 222,u 223,u 224,u 225,u 226,u 227,u 228,u 229,u 230,u 231,u 232,u 233,u 234,u 235,u 236,u 237,u 238,u 239,u 240,u 241,u 242,u 243,u 244,u 245,u 246,u 247,u 248,u 249,u 250,u 251,u 252,u 253,u 254,u 255,u 256,u 257,u 258,u 259,u 260,u 261,u 262,u 263,u 264,u 265,u 266,u 267,u 268,u 269,u 270,u 271,u 272,u 273,u 274,u 275,u 276,u 277,u 278,u 279,u 280,u 281,u 282,u 283,u 284,u 285,u 286,u 287,u 288,u 289,u 290,u 291,u 292,u 293,u 294,u 295,u 296,u 297,u 298,u 299,u 300,u 301,u 302]:=by kernel_rfl
theorem FF{P:Array Value->Prop}{l:Array Value}(hs:l.size=303)(h:P (Jj fun i=>l.getD i undef)):P l:=by
 have e:(Jj fun i=>l.getD i undef)=l:=by
  refine Array.ext (by simp[Jj,hs]) fun i h1 h2=>?_
  simp[Jj,yG,h2]
 rwa [e] at h
structure UF (id:Nat) (caps:Array Value) (w:World) (u:Nat->Value):Prop where
 u1:u 1=.func (.func id) #[] caps
 u2:u 2=.pointer (some ⟨w.heap.size,0,none⟩)
 u4:u 4=.pointer (some ⟨w.heap.size+1,0,none⟩)
 u5:u 5=.pointer (some ⟨w.heap.size+2,0,none⟩)
theorem N3{N:NP}{w:World}{cs:LV}{d:Dm}(h:Gg N w cs d):cs.length=7∧∀v∈cs,v.oneCell'=true:=by
 obtain ⟨_,c,rfl,g⟩:=h
 exact ⟨by simp[g.len],AH rfl (Ai g)⟩
theorem KY{N:NP}{w:World}{cs:LV}{d:BQ}(h:DA N w cs d):cs.length=7∧∀v∈cs,v.oneCell'=true:=by
 obtain ⟨_,c,rfl,g⟩:=h
 exact ⟨by simp[g.len],AH rfl (Ai g)⟩
theorem KZ{N:NP}{w:World}{cs:LV}{d:Br}(h:Dj N w cs d):cs.length=8∧∀v∈cs,v.oneCell'=true:=by
 obtain ⟨_,c,rfl,g⟩:=h
 exact ⟨by simp[A7,g.len],Ao (CM _) (Ai g)⟩
theorem Q9{α:Type}{l:List α}{i:Nat}(h:i < l.length):l.zipIdx.take (i+1)=l.zipIdx.take i++[(l[i],i)]:=by
 rw[yq (by simpa using h)]
 simp
theorem Sz{α:Type}{l:List α}:l.zipIdx.take l.length=l.zipIdx:=xN (by simp)
section
variable(g:Int->Rf->Rf)(q:Int->Rf->Bool)
def JI(d:Dm):Dm:=⟨d.name,AV g d.value⟩
def L3(d:Dm):Bool:=AS q d.value
def Ge(d:BQ):BQ:=⟨d.name,AV g d.need⟩
def GG(d:BQ):Bool:=AS q d.need
def Dy(i:Nat)(d:Aw):Aw:=⟨d.name,if i=0 then d.frm else g 2 d.frm,AV g d.delay,AV g d.cap,AV g d.bank,AV g d.siphon,AV g d.evap0,AV g d.evap1,AV g d.seep0,AV g d.seep1⟩
def DT(i:Nat)(d:Aw):Bool:=(((((((((if i=0 then true else q 2 d.frm)&&AS q d.delay)&&AS q d.cap)&&AS q d.bank)&&AS q d.siphon)&&AS q d.evap0)&&AS q d.seep0)&&AS q d.evap1)&&AS q d.seep1)
def EO(d:BL):BL:=⟨d.name,g 2 d.on,d.river,AV g d.area,if d.river then d.crop else g 1 d.crop⟩
def Fq(d:BL):Bool:=(q 2 d.on&&(if d.river then true else q 1 d.crop))&&AS q d.area
def H9(d:Br):Br:=⟨g 3 d.farm,AV g d.len⟩
def GH(d:Br):Bool:=q 3 d.farm&&AS q d.len
def I5(d:B9):B9:=⟨d.name,g 2 d.on,d.rank,AV g d.flow,AV g d.frm,AV g d.to,d.turns.map (H9 g)⟩
def I6(d:B9):Bool:=(((q 2 d.on&&AS q d.flow)&&AS q d.frm)&&AS q d.to)&&d.turns.all (GH q)
def D0(d:AG):AG:=⟨d.kind,d.name,g 3 d.farm,if d.kind=1 then d.reach else g 2 d.reach,d.rank,AV g d.flow,AV g d.frm,AV g d.to,AV g d.every,AV g d.len⟩
def Dc(d:AG):Bool:=((((((q 3 d.farm&&(if d.kind=1 then true else q 2 d.reach))&&AS q d.flow)&&AS q d.frm)&&AS q d.to)&&AS q d.every)&&AS q d.len)
def E2(d:BR):BR:=⟨d.name,g 3 d.farm,g 2 d.reach,AV g d.due⟩
def E3(d:BR):Bool:=(q 3 d.farm&&q 2 d.reach)&&AS q d.due
end
structure SH (x:Aq):Prop where
 slim:IB x
 season:Bd x.season
 cap:Bd x.cap
 start:Bd x.start
 lets:∀d∈x.lets,Bd d.value
 crops:∀d∈x.crops,Bd d.need
 reaches:∀d∈x.reaches,Bd d.delay∧Bd d.cap∧Bd d.bank∧Bd d.siphon∧Bd d.evap0∧Bd d.evap1∧Bd d.seep0∧Bd d.seep1
 farms:∀d∈x.farms,Bd d.area
 rots:∀d∈x.rots,(Bd d.flow∧Bd d.frm∧Bd d.to)∧d.turns.length<=100000∧∀t∈d.turns,Bd t.len
 rights:∀d∈x.rights,Bd d.flow∧Bd d.frm∧Bd d.to∧Bd d.every∧Bd d.len
 duties:∀d∈x.duties,Bd d.due
def MP(F G:NP)(J:Bool->World->Prop)(b:Bool)(y:Aq)(w:World)(e:Ending)(w':World):Prop:=
 ∃a:LV,e=.returned (.agg a.toArray)∧I4 (GF G w') w' a y∧J b w'∧BX F w.heap.size w w'
structure MS (F:Nat->Prop) (w:World) (cs row:List Value) (W:World):Prop where
 bx:BX F w.heap.size w W
 s:W.heap[w.heap.size]?=some (.cells cs.toArray 35 (0,0))
 z:∃zr:List Value,zr.length=26∧W.heap[w.heap.size+1]?=some (.cells zr.toArray 35 (0,0))
 x:W.heap[w.heap.size+2]?=some (.cells row.toArray 35 (0,0))
section
variable{F:NP}{w W W':World}{cs row row':LV}{C:Nat}
theorem MS.lt(h:MS F w cs row W):w.heap.size+3<=W.heap.size:=(yf.1 h.x).1
theorem MS.up(h:MS F w cs row W)(c:∀k,F k->k < w.heap.size)(g:w.heap.size+3<=C)(hb:BX F C W W'):MS F w cs row W':=by
 have a:∀k,w.heap.size<=k->¬ F k:=fun k f h=>by have:=c k h;omega
 obtain ⟨d,b,e⟩:=h.z
 exact ⟨h.bx.trans (hb.mono (by omega)),(hb.block _ (by omega) (a _ (ye _))).trans h.s,⟨d,b,(hb.block _ (by omega) (a _ (by omega))).trans e⟩,(hb.block _ (by omega) (a _ (by omega))).trans h.x⟩
theorem MS.wrote(h:MS F w cs row W)(a:AE W W' (w.heap.size+2) row' 35):MS F w cs row' W':=by
 obtain ⟨c,b,d⟩:=h.z
 exact ⟨h.bx.wrote a (by omega),(a.block _ (by omega)).trans h.s,⟨c,b,(a.block _ (by omega)).trans d⟩,a.row⟩
theorem MS.cell{p q:LV}{v:Value}(h:MS F w cs row W)(hc:cs=p++(v::q)){o:Nat}(a:p.length=o):W.cell? ⟨w.heap.size,o,none⟩=some v:=by
 have h1:=Ax h.s
 rw[hc] at h1
 have h2:=AX (p:=p) (c:=[v]) (q:=q) h1
 rw[a,yA] at h2
 exact CT h2
theorem MS.cellx{p q:LV}{v:Value}(h:MS F w cs row W)(hc:row=p++(v::q)){o:Nat}(a:p.length=o):W.cell? ⟨w.heap.size+2,o,none⟩=some v:=by
 have h1:=Ax h.x
 rw[hc] at h1
 have h2:=AX (p:=p) (c:=[v]) (q:=q) h1
 rw[a,yA] at h2
 exact CT h2
end
structure Di (k:Nat) (N:Nat->Prop) (W:World) (c0 c1 c2:List Value) (h0 h1 h2 h3 h4 h5 h6:Ah) (y:Aq):Prop where
 name:y.name.size<=maxLen
 e0:AW N W y.season c0
 e1:AW N W y.cap c1
 e2:AW N W y.start c2
 lets:0 < k->AF N W 7 (Gg N W) h0 y.lets
 crops:1 < k->AF N W 7 (DA N W) h1 y.crops
 reaches:2 < k->AF N W 51 (CC N W) h2 y.reaches
 farms:3 < k->AF N W 12 (DE N W) h3 y.farms
 rots:4 < k->AF N W 23 (Lo N W) h4 y.rots
 rights:5 < k->AF N W 37 (CH N W) h5 y.rights
 duties:6 < k->AF N W 11 (DF N W) h6 y.duties
section
variable{k:Nat}{F F':NP}{W W':World}{c0 c1 c2:LV}{h0 h1 h2 h3 h4 h5 h6:Ah}{y:Aq}
theorem Di.flux(h:Di k (GF F W) W c0 c1 c2 h0 h1 h2 h3 h4 h5 h6 y)(c:Bl F W W')(a:∀b,F' b->F b∨W.heap.size<=b):Di k (GF F' W') W' c0 c1 c2 h0 h1 h2 h3 h4 h5 h6 y:=
 ⟨h.name,h.e0.flux c a,h.e1.flux c a,h.e2.flux c a,fun k=>(h.lets k).flux G6 c a,fun k=>(h.crops k).flux EW c a,fun k=>(h.reaches k).flux Ed c a,fun k=>(h.farms k).flux EX c a,fun k=>(h.rots k).flux G7 c a,fun k=>(h.rights k).flux Ee c a,fun k=>(h.duties k).flux EY c a⟩
theorem Di.res{N:NP}(h:Di 7 N W c0 c1 c2 h0 h1 h2 h3 h4 h5 h6 y):I4 N W (.string y.name::(c0++(c1++(c2++[h0.v,h1.v,h2.v,h3.v,h4.v,h5.v,h6.v])))) y:=
 Te ⟨h.name,h.e0,h.e1,h.e2,h.lets (by omega),h.crops (by omega),fun _=>h.reaches (by omega),fun _=>h.farms (by omega),fun _=>h.rots (by omega),fun _=>h.rights (by omega),fun _=>h.duties (by omega)⟩
end
theorem QU{N:NP}{w:World}{L:Bz}{cs:LV}{x:Aq}(h:BC N w L cs x):AF N w 23 (Lo N w) L.rots x.rots:=by
 obtain ⟨h1,h2,h3⟩:=h.rots
 exact ⟨h1,h2,fun i hi=>by obtain ⟨b,o,cs,g1,d,e,c,a⟩:=h3 i hi;exact ⟨b,o,cs,g1,d,e,c,_,a⟩⟩
structure MI {δ:Type} (V:(Nat->Prop)->World->List Value->δ->Prop) (ty sz:Nat) (F G:Nat->Prop) (J:Bool->World->Prop) (b:Bool) (w:World) (cs P Q:List Value) (X:(Nat->Prop)->World->Prop) (qP:Nat->Bool) (mP:Nat->List δ) (i:Nat) (v:Value) (wr:World):Prop where
 ms:MS F w cs (P++(v::Q)) wr
 j:J (b&&qP i) wr
 got:X (GF (FL G ([w.heap.size,w.heap.size+1,w.heap.size+2]++ob v)) wr) wr
 grow:Dw V ty sz (w.heap.size+3) G [w.heap.size,w.heap.size+1,w.heap.size+2] wr v (mP i)
structure TB (F:Nat->Prop) (wr:World) (ty:TypeId) (row:List Value) (X:World):Prop where
 bx:BX F wr.heap.size wr X
 row:X.heap[wr.heap.size]?=some (.cells row.toArray ty (0,0))
section
variable{F G:NP}{wr X X2 X3:World}{ty:TypeId}{row row':LV}{l:List Nat}{css:List LV}{es:List Ex}{o:Obj}
theorem TB.lt(h:TB F wr ty row X):wr.heap.size < X.heap.size:=(yf.1 h.row).1
theorem ED(a:AE (wr.alloc o) X wr.heap.size row ty):TB F wr ty row X:=⟨.of (Az a),a.row⟩
theorem TB.cb(h:TB F wr ty row X)(a:WX F X X2 wr.heap.size row' ty):TB F wr ty row' X2:=⟨a.bx h.bx (ye _),a.row⟩
theorem TB.call(h:TB F wr ty row X)(a:∀k,F k->k < wr.heap.size)(hb:BX F X.heap.size X X2):TB F wr ty row X2:=
 ⟨h.bx.trans (hb.mono h.bx.size),(hb.block _ h.lt (fun k=>xA _ (a _ k))).trans h.row⟩
theorem TB.wrote(h:TB F wr ty row X)(a:AE X X2 wr.heap.size row' ty):TB F wr ty row' X2:=⟨h.bx.wrote a (ye _),a.row⟩
theorem TB.part(h:TB F wr ty row X){p m q:LV}(b:row=p++(m++q)){off:Nat}(a:p.length=off):X.rangeAt wr.heap.size off m:=by
 have h1:=Ax h.row
 rw[b] at h1
 have:=AX h1
 rwa [a,yA] at this
theorem BH{W:World}{b:Nat}{fr:Nat × Nat}(h:W.heap[b]?=some (.cells row.toArray ty fr)){p m q:LV}(c:row=p++(m++q)){off:Nat}(a:p.length=off):W.rangeAt b off m:=by
 have h1:=Ax h
 rw[c] at h1
 have:=AX h1
 rwa [a,yA] at this
theorem TB.drew(h:TB F wr ty row X):TB F wr ty row X.drew:=⟨h.bx.drew,h.row⟩
theorem AD{op:Oper}{a:Act}{w:World}{K:Act->World->Prop}{Q:QT}(t':TypeId)(x y:Operand)(i:op.op=.store t' x y)
 (b o:Nat)(e:a.eval x=.pointer (some ⟨b,o,none⟩))(c:LV)(f:a.eval y=.agg c.toArray){p m q:LV}{t:TypeId}(hb:w.heap[b]?=some (.cells (p++(m++q)).toArray t (0,0)))(d:p.length=o)(g:m.length=c.length)
 (hi:(Try.prog.info? t').map (·.size)=some c.length)(h1:∀v∈c,v.oneCell'=true)
 (h:∀W',AE w W' b (p++(c++q)) t->K (a.put op.dst undef) W'):Oper.wp Try.prog op a w K Q:=by
 refine wp_store_mid t' x y i b o c.toArray e f (J9 hb (by simp;omega)) (by rw[yB];exact hi) (yU h1) ?_
 exact h _ (Eh b t c o w p m q hb d g)
theorem VE.cb(h:VE G l X css es)(a:WX F X X2 wr.heap.size row' ty)(b:∀k,F k->G k)(hl:wr.heap.size∈l):VE G l X2 css es:=h.up (a.flux (fun k c=>.inl (b k c)) (.inr hl)) (fun _ h=>.inl h)
theorem VE.bcall(h:VE G l X css es)(hb:BX F X.heap.size X X2)(a:∀k,F k->G k):VE G l X2 css es:=h.up (hb.flux (ye _) (fun k b=>.inl (a k b))) (fun _ h=>.inl h)
theorem VE.wrt(h:VE G l X css es)(a:AE X X2 wr.heap.size row' ty)(hl:wr.heap.size∈l):VE G l X2 css es:=h.up (a.flux (.inr hl)) (fun _ h=>.inl h)
end
theorem V7{id:Nat}{caps:Array Value}{F G:NP}{J:Bool->World->Prop}{g:Int->Rf->Rf}{q:Int->Rf->Bool}{b:Bool}{w W:World}{cs:LV}{u:Nat->Value}{y:Aq}{c0 c1 c2:LV}{h0 h1 h2 h3 h4 h5 h6:Ah}(hc:JH id caps F g q J)(B:∀k,F k->k < w.heap.size)(d:UF id caps w u)
 (j:MS F w cs (.string y.name::(c0++(c1++(c2++[h0.v,h1.v,h2.v,h3.v,h4.v,h5.v,h6.v])))) W)(A:Di 7 (GF (FL G [w.heap.size,w.heap.size+1,w.heap.size+2]) W) W c0 c1 c2 h0 h1 h2 h3 h4 h5 h6 y)(C:J b W):
  Code.wp Try.prog (DO 11 (Try.f17.body.getD .skip)) (bodyPost Try.prog Try.f17 (MP F G J b y w)) {tmps:=Jj u,defers:=[]} W:=by
 rw[FE,d.u1,d.u2,d.u4,d.u5]
 obtain ⟨row,t⟩:∃r:LV,r=.string y.name::(c0++(c1++(c2++[h0.v,h1.v,h2.v,h3.v,h4.v,h5.v,h6.v]))):=⟨_,rfl⟩
 have a:=yb A.res
 rw[<-t] at j a
 have l:=yb a.o.len
 have M:=yb a.o.one
 have D:=yb j
 have I:=yb hc
 have p:=yb B
 have K:=yb C
 obtain ⟨O,i,f⟩:=j.z
 have s:=yb i;have m:=yb f
 clear j hc B C A t i f d
 refine wp_seq ?_
 go_wp2_with (first
  |(refine yj rfl 35 _ rfl (w.heap.size+2) 0 rfl row _ (Ax D.o.x) qB rfl (Cl (n:=26) (by kernel_rfl) l.o) ?_)
  |(refine Ae rfl 35 _ _ rfl (w.heap.size+1) rfl row rfl m.o (by rw[yB,s.o,l.o]) (Cl (n:=26) (by kernel_rfl) l.o) M.o ?_;intro N e;have c:=yb e;clear e))
 refine Fp rfl rfl c.o.row qB rfl (Cl (n:=26) (by kernel_rfl) l.o) ?_
 refine ⟨row,rfl,?_,I.o.stab _ _ _ K.o (fun k E=>c.o.block k (by have:=p.o k E;omega)) (by rw[c.o.size];exact ye _),D.o.bx.wrote c.o (by omega)⟩
 obtain ⟨L,H⟩:=a.o.flux (F':=FL G [w.heap.size,w.heap.size+1,w.heap.size+2]) (c.o.flux (.inr (by simp))) (fun _ h=>.inl h)
 exact ⟨L,H.same (fun b hb=>⟨fun k=>hb.1 (.inl k),hb.2⟩) (fun _ _=>rfl)⟩
set_option linter.unusedSimpArgs false
theorem UH{id:Nat}{caps:Array Value}{F G:NP}{J:Bool->World->Prop}{g:Int->Rf->Rf}{q:Int->Rf->Bool}{b:Bool}{w W:World}{cs:LV}{u:Nat->Value}{x y:Aq}{L:Bz}{c0 c1 c2:LV}{h0 h1 h2 h3 h4 h5:Ah}(hc:JH id caps F g q J)(hv:BC (GF G w) w L cs x)(aj:SH x)(ak:∀k,F k->G k)(hG:∀k,G k->k < w.heap.size)(hu:UF id caps w u)
 (hS:MS F w cs (.string y.name::(c0++(c1++(c2++[h0.v,h1.v,h2.v,h3.v,h4.v,h5.v,.slice none 0 0])))) W)(hY:Di 6 (GF (FL G [w.heap.size,w.heap.size+1,w.heap.size+2]) W) W c0 c1 c2 h0 h1 h2 h3 h4 h5 ⟨none,0,0⟩ y)(hJ:J b W):
  Code.wp Try.prog (DO 10 (Try.f17.body.getD .skip)) (bodyPost Try.prog Try.f17 (MP F G J (b&&x.duties.all (E3 q)) (⟨y.name,y.season,y.cap,y.start,y.lets,y.crops,y.reaches,y.farms,y.rots,y.rights,(x.duties.map (E2 g))⟩:Aq) w)) {tmps:=Jj u,defers:=[]} W:=by
 have c6:∀k,F k->k < w.heap.size:=fun k d=>hG k (ak k d)
 obtain ⟨⟨a,n,c⟩,hL⟩:∃h:Ah,L.duties=h:=⟨_,rfl⟩
 obtain ⟨s0,s1,s2,bj,g0,g1,g2⟩:=hv.cells
 have av:W.cell? (aV w.heap.size 25)=some (.slice a n c):=by
  refine hS.cell (p:=.string x.name::(s0++(s1++(s2++[L.lets.v,L.crops.v,L.reaches.v,L.farms.v,L.rots.v,L.rights.v])))) (q:=[]) ?_ (by simp[g0.len,g1.len,g2.len])
  rw[bj,hL]
  simp[yl,Ah.v]
 have ar:AF (GF G w) w 11 (DF (GF G w) w) ⟨a,n,c⟩ x.duties:=hL▸hv.duties
 have cv:=yb ar.2.2
 have Z:Hid (n=x.duties.length):=yb ar.1
 have aw:Hid (x.duties.length<=100000):=yb aj.slim.duties
 have HN:Hid (n<=140737488355328):=yb (by have:=Z.o;have:=aw.o;omega)
 obtain ⟨P,hP⟩:∃P:LV,P=.string y.name::(c0++(c1++(c2++[h0.v,h1.v,h2.v,h3.v,h4.v,h5.v]))):=⟨_,rfl⟩
 have bw:Hid (P.length=25):=yb (by rw[hP];simp[hY.e0.len,hY.e1.len,hY.e2.len])
 have c5:MS F w cs (P++(.slice none 0 0::[])) W:=by rw[hP];simpa[yl] using hS
 obtain ⟨I,hI⟩:∃I:Nat->World->Prop,I=fun i W=>∃v,MI DF 70 11 F G J b w cs P [] (fun N W=>Di 6 N W c0 c1 c2 h0 h1 h2 h3 h4 h5 ⟨none,0,0⟩ y) (fun i=>(x.duties.take i).all (E3 q)) (fun i=>(x.duties.take i).map (E2 g)) i v W:=⟨_,rfl⟩
 have bz:Hid (I 0 W):=yb (by
  rw[hI]
  exact ⟨_,c5,by simpa using hJ,by simpa[ob,Value.ownBlock] using hY,by simpa using DP⟩)
 have HI:=yb hI;have HV:=yb hv;have Y:=yb hc;have ck:=yb aj;have Q:=yb ak;have HG:=yb hG;have f:=yb c6;have cj:=yb hP;have HU:=yb hu;have d1:=yb hY.name
 rw[FE,hu.u1,hu.u2,hu.u4,hu.u5]
 clear hv aj hc ak hG c6 hS hY hJ hP hL bj g0 g1 g2 ar c5 hI hu
 refine Ap fun K hK=>?_
 go_wp2
 go_loopw [280] (fun iv wr=>∃i:Nat,iv=iV i∧i<=n∧Hid (I i wr)) (fun iv _=>n - (intOf iv).toNat)
 case atStart=>exact ⟨0,rfl,yz _,bz⟩
 case round=>
  clear bz av
  obtain ⟨i,rfl,hi,bm⟩:=hrel
  obtain ⟨v,hM⟩:∃v,MI DF 70 11 F G J b w cs P [] (fun N W=>Di 6 N W c0 c1 c2 h0 h1 h2 h3 h4 h5 ⟨none,0,0⟩ y) (fun i=>(x.duties.take i).all (E3 q)) (fun i=>(x.duties.take i).map (E2 g)) i v wr:=by have h:=bm.o;rw[HI.o] at h;exact h
  obtain ⟨va,S,R,rfl⟩:=hM.grow.slice
  have B:=yb hM
  clear bm hM
  have cy:n<=140737488355328:=HN.o
  by_cases co:i < n
  ·have a8:i < x.duties.length:=by rw[<-Z.o];exact co
   have cl:(i:Int) < (n:Int):=by omega
   obtain ⟨bq,oq,ct,he,ac,c9,aa,al⟩:=cv.o i a8
   obtain rfl:a=some (aV bq oq):=he
   have af:Hid ((b&&(x.duties.take (i+1)).all (E3 q))=((b&&(x.duties.take i).all (E3 q))&&E3 q x.duties[i])):=yb (by
    rw[yq a8,zh,ze,zu,yT,<-zc])
   have an:Hid ((x.duties.take (i+1)).map (E2 g)=(x.duties.take i).map (E2 g)++[E2 g x.duties[i]]):=yb (by rw[yq a8,zb];rfl)
   have cx:Hid (i+1<=1000000):=yb (by have:=Z.o;have:=aw.o;omega)
   have az:=yb (ck.o.duties _ (yy a8))
   have ci:Hid (((x.duties.take i).map (E2 g)).length=i):=yb (by simp;omega)
   generalize hD:x.duties[i]=D at al af an az
   clear hD
   generalize c3:(b&&(x.duties.take i).all (E3 q))=bb at af
   have HJ:Hid (J bb wr):=yb (by rw[<-c3];exact B.o.j)
   clear c3
   have b3:=yb (KT al).2
   have C:=yb c9
   obtain ⟨nm,O,U,e0⟩:=D
   obtain ⟨au,ao,hdr,c0,rfl,x0⟩:=al
   simp only at aa C b3 af an az au ao hdr x0
   obtain ⟨ct,a0⟩:∃ct:LV,ct=(.string nm::(Am O++(Am U++c0))):=⟨_,rfl⟩
   rw[<-a0] at aa C b3
   have cg:=yb a0
   have cm:=yb au
   have ce:=yb ao
   have bv:=yb hdr
   have ba:Hid (wr.rangeAt bq (oq+i*11) ct):=yb (A3 aa (B.o.ms.bx.block bq ac.2 (fun k=>ac.1 (Q.o _ k))))
   have d0:Hid (bq < wr.heap.size):=yb (yp ac.2 B.o.ms.bx.size)
   have bg:Hid (Au (fun c e=>AW (GF G w) w e c) [c0] [e0]):=yb ⟨x0,trivial⟩
   have bk:Hid (∀k∈(([w.heap.size,w.heap.size+1,w.heap.size+2]++ob (.slice va S R))++[wr.heap.size]),w.heap.size<=k∧k<=wr.heap.size):=yb (by
    have h1:=B.o.ms.lt
    intro k d
    rcases yo.1 d with d|d
    ·rcases yo.1 d with d|d
     ·simp at d;omega
     ·have:=B.o.grow.lt k d;omega
    ·simp at d;omega)
   have z:=yb B.o.ms.lt
   have b9:Hid (¬ F wr.heap.size):=yb (fun h=>by have:=f.o _ h;have:=z.o;omega)
   clear a0 aa ac c9 au ao hdr x0
   go_upto_region 66 with (first
    |(with_reducible refine yj rfl 70 _ rfl bq (oq+i*11) (by kernel_rfl) ct _ ba.o qO (by kernel_rfl) (Cl (n:=11) (by kernel_rfl) C.o) ?_)
    |(with_reducible refine Ae rfl 70 _ _ rfl wr.heap.size (by kernel_rfl) ct (by kernel_rfl) (World.alloc_heap_new _ _) (by rw[yB,C.o];kernel_rfl) (Cl (n:=11) (by kernel_rfl) C.o) b3.o ?_;intro X1 bo;have ab:=yb bo;clear bo))
   have A:Hid (TB F wr 70 (.string nm::(Am O++(Am U++c0))) X1):=yb (by rw[<-cg.o];exact ED ab.o)
   have s:Hid (J bb X1):=yb (Y.o.stab _ _ _ HJ.o (fun k d=>(Az ab.o).block k (by have:=f.o k d;have:=z.o;omega)) (Az ab.o).size)
   have E:Hid (VE G (([w.heap.size,w.heap.size+1,w.heap.size+2]++ob (.slice va S R))++[wr.heap.size]) X1 [c0] [e0]):=yb (Au.mono (fun _ _ h=>h.flux ((B.o.ms.bx.trans (A.o.bx.mono B.o.ms.bx.size)).flux (ye _) Q.o) (fun k d=>d.imp (fun h=>h) (fun h=>(bk.o k h).1))) bg.o)
   clear ab ba bg
   have a1:=yb (Y.o.call (bb) X1 3 wr.heap.size 1 (.string nm::([]:LV)) O (Am U++c0) 70 s.o (by have h:=A.o.row;simpa[yl] using h) (by simp) b9.o ce.o (by decide) (by decide))
   go_upto_region 67 with fail
   rw[Y.o.enter,zR]
   refine a1.o.mono ?_
   rintro e X2 ⟨rfl,hj,hx⟩
   have M:WX F X1 X2 wr.heap.size (.string nm::(Am (g 3 O)++(Am U++c0))) 70:=by simpa[yl] using hx
   have hT:=A.o.cb M;have hE:=E.o.cb M Q.o (by simp)
   clear A s E a1 hx
   have A:=yb hT;have E:=yb hE;have s:=yb hj
   clear hT hE hj M
   have a1:=yb (Y.o.call ((bb&&q 3 O)) X2 2 wr.heap.size 3 (.string nm::(Am (g 3 O)++([]:LV))) U c0 70 s.o (by have h:=A.o.row;simpa[yl] using h) (by simp[A7]) b9.o bv.o (by decide) (by decide))
   go_upto_region 68 with fail
   rw[Y.o.enter,zR]
   refine a1.o.mono ?_
   rintro e X3 ⟨rfl,hj,hx⟩
   have M:WX F X2 X3 wr.heap.size (.string nm::(Am (g 3 O)++(Am (g 2 U)++c0))) 70:=by simpa[yl] using hx
   have hT:=A.o.cb M;have hE:=E.o.cb M Q.o (by simp)
   clear A s E a1 hx
   have A:=yb hT;have E:=yb hE;have s:=yb hj
   clear hT hE hj M
   have bn:=yb (A.o.part (p:=(.string nm::(Am (g 3 O)++(Am (g 2 U)++([]:LV))))) (m:=c0) (q:=([]:LV)) (off:=5) (by simp) (by simp[A7]))
   have aq:=E.o.1
   have ax:=yb aq.len
   have ai:=yb (B8 Y.o e0 (FL G (([w.heap.size,w.heap.size+1,w.heap.size+2]++ob (.slice va S R))++[wr.heap.size])) (((bb&&q 3 O)&&q 2 U)) X3 c0 az s.o aq (fun k d=>.inl (Q.o k d)) (fun k d=>by
    have h1:=A.o.lt;have h2:=z.o
    rcases d with d|d
    ·have:=HG.o k d;omega
    ·have:=(bk.o k d).2;omega))
   clear aq
   go_upto_region 69 with (first
    |(with_reducible refine yj rfl 26 _ rfl wr.heap.size 5 (by kernel_rfl) c0 _ bn.o qq (by kernel_rfl) (BW ax.o) ?_)
    |(go_at_call 65;refine ai.o.mono ?_;rintro e X4 ⟨res,rfl,b8,ca,ay⟩;have X:=yb b8;have cc:=yb ca;have cu:=yb ay;have b5:=yb (A.o.call (fun k d=>by have:=f.o k d;have:=z.o;omega) ay);clear b8 ca ay)
    |(with_reducible refine Ct rfl 26 _ _ rfl wr.heap.size 5 (by kernel_rfl) res (by kernel_rfl) (p:=(.string nm::(Am (g 3 O)++(Am (g 2 U)++([]:LV))))) (m:=c0) (q:=([]:LV)) (t:=70) (by have h:=b5.o.row;simpa[yl] using h) (by simp[A7]) (by rw[ax.o,X.o.len]) (BW X.o.len) (Ai X.o) ?_;intro X5 bd;have a2:Hid (AE X4 X5 wr.heap.size (.string nm::(Am (g 3 O)++(Am (g 2 U)++res))) 70):=yb (by simpa[yl] using bd);clear bd))
   have hT:=b5.o.wrote a2.o
   have HR:Hid (AW (GF (FL G (([w.heap.size,w.heap.size+1,w.heap.size+2]++ob (.slice va S R))++[wr.heap.size])) X5) X5 (AV g e0) res):=yb (X.o.fl (a2.o.flux (.inr (by simp))) (fun _ h=>.inl h))
   have hj:=Y.o.stab _ _ _ cc.o (fun k d=>a2.o.block k (by have:=f.o k d;have:=z.o;omega)) (by rw[a2.o.size];exact ye _)
   clear A b5 s cc E X cu a2 bn ax ai
   have A:=yb hT;have s:=yb hj
   clear hT hj
   obtain ⟨T,ap⟩:∃r:LV,r=(.string nm::(Am (g 3 O)++(Am (g 2 U)++res))):=⟨_,rfl⟩
   rw[<-ap] at A
   have am:Hid (DF (GF (FL G ([w.heap.size,w.heap.size+1,w.heap.size+2]++ob (.slice va S R))) X5) X5 T (E2 g ⟨nm,O,U,e0⟩)):=yb (by
    rw[ap]
    have x0:AW (GF (FL G ([w.heap.size,w.heap.size+1,w.heap.size+2]++ob (.slice va S R))) X5) X5 (AV g e0) res:=HR.o.fl (Bl.refl _ _) (fun k d=>.inl (yo.2 (.inl d)))
    exact ⟨cm.o,Y.o.name _ _ ce.o,Y.o.name _ _ bv.o,_,rfl,x0⟩)
   clear ap HR
   have ae:=yb (KT am.o).1;have cr:=yb (KT am.o).2
   have b4:Hid (MS F w cs (P++(.slice va S R::[])) X5):=yb (B.o.ms.up f.o z.o A.o.bx)
   have cz:X5.cell? (aV (w.heap.size+2) 25)=some (.slice va S R):=b4.o.cellx rfl bw.o
   have c8:Hid (Bl (FL G ([w.heap.size,w.heap.size+1,w.heap.size+2]++ob (.slice va S R))) wr X5):=yb (A.o.bx.flux (ye _) (fun k d=>.inl (Q.o k d)))
   have bu:=B.o.grow.up (l':=[w.heap.size,w.heap.size+1,w.heap.size+2]) EY c8.o (fun k d=>A.o.bx.block k (B.o.grow.lt k d).2 (fun h=>by have:=f.o k h;have:=(B.o.grow.lt k d).1;omega)) (fun _ h=>.inl h)
   obtain ⟨rows,ad,bt,a7⟩:=bu.own
   have cf:=yb ad;have cp:=yb bt;have c4:=yb a7
   have ag:Hid (w.heap.size+3<=X5.heap.size):=yb b4.o.lt
   have b7:Hid ((X5.alloc (.cells T.toArray 70)).ownsRow (w.heap.size+3) 70 11 (.slice va S R) rows.length rows.flatten):=yb (Bv ad fun k d=>((yg _ _).alloc (ye _) _).block k (EJ ad k d).2)
   have be:Hid (rows.length+1<=1000000):=yb (by rw[Au.length a7,ci.o];exact cx.o)
   have cq:Hid (w.heap.size+3<=(X5.alloc (.cells T.toArray 70)).heap.size):=yb (by have:=ag.o;simp;omega)
   clear ad bt a7 bu
   go_upto_region 70 with (first
    |(with_reducible refine yj rfl 70 _ rfl wr.heap.size 0 (by kernel_rfl) T _ (Ax A.o.row) qO (by kernel_rfl) (Cl (n:=11) (by kernel_rfl) ae.o) ?_)
    |(with_reducible refine BO rfl 33 70 _ rfl T (by kernel_rfl) 11 qA (by kernel_rfl) ae.o (by omega) (by omega) ?_)
    |(at_builtin;refine Bg qA rfl _ _ rfl 11 (by kernel_rfl) (by omega) (w.heap.size+3) (.slice va S R) rows.length rows.flatten (by kernel_rfl) b7.o X5.heap.size 1 T (by kernel_rfl) (World.alloc_heap_new _ _) ae.o cr.o be.o cq.o ?_;intro vx x8 a6 bp bi;obtain ⟨xa,xn,xc,rfl⟩:=CX a6;have H:=yb (Cy EY c4.o cp.o cf.o am.o ae.o a6 bp bi ag.o);have ah:=yb (b4.o.up f.o (ye _) (.of H.o.below));clear a6 bp bi)
    |(with_reducible refine Ag rfl 33 _ _ rfl (w.heap.size+2) 25 (by kernel_rfl) (.slice xa xn xc) (by kernel_rfl) (by kernel_rfl) (p:=P) (m:=.slice va S R) (q:=[]) (t:=35) ah.o.x bw.o (by kernel_rfl) (by kernel_rfl) ?_;intro x9 c7;have V:=yb c7;clear c7))
   go_wp2
   have ch:Hid (I (i+1) x9):=yb (by
    rw[HI.o]
    refine ⟨.slice xa xn xc,ah.o.wrote V.o,?_,?_,?_⟩
    ·rw[show (b&&(x.duties.take (i+1)).all (E3 q))=(((bb&&q 3 O)&&q 2 U)&&AS q e0) by rw[af.o];simp[E3,zc]]
     exact Y.o.stab _ _ _ s.o (fun k d=>(V.o.block k (by have:=f.o k d;omega)).trans (H.o.below.block k (by have:=f.o k d;omega))) (by rw[V.o.size];exact H.o.flux.1)
    ·exact ((B.o.got.flux c8.o (fun _ h=>.inl h)).flux H.o.flux (IG H.o.obs)).flux (V.o.flux (.inr (by simp))) (fun _ h=>.inl h)
    ·have h:=H.o.grow.up (l':=[w.heap.size,w.heap.size+1,w.heap.size+2]) EY (V.o.flux (.inr (by simp))) (fun k d=>V.o.block k (by have:=(H.o.grow.lt k d).1;omega)) (fun _ h=>.inl h)
     rw[<-an.o] at h
     exact h)
   exact ⟨⟨i+1,by push_cast;rfl,by omega,ch⟩,by simp[intOf];omega⟩
  ·obtain rfl:i=n:=by omega
   have cl:decide ((i:Int) < (i:Int))=false:=by simp
   have HQ:Hid (J (b&&x.duties.all (E3 q)) wr):=yb (by have h:=B.o.j;simp only[Z.o,yw] at h;exact h)
   have bh:Dw DF 70 11 (w.heap.size+3) G [w.heap.size,w.heap.size+1,w.heap.size+2] wr (.slice va S R) (x.duties.map (E2 g)):=by have h:=B.o.grow;simp only[Z.o,yw] at h;exact h
   obtain ⟨hd,cd,bs⟩:=bh.done EY (fun k d=>by have:=HG.o k d;omega) (fun k d=>by simp at d;omega) (by have:=aw.o;simp;omega)
   have cw:Hid (Di 7 (GF (FL G [w.heap.size,w.heap.size+1,w.heap.size+2]) wr) wr c0 c1 c2 h0 h1 h2 h3 h4 h5 hd (⟨y.name,y.season,y.cap,y.start,y.lets,y.crops,y.reaches,y.farms,y.rots,y.rights,(x.duties.map (E2 g))⟩:Aq)):=yb (by
    have h:=B.o.got.flux (F':=FL G [w.heap.size,w.heap.size+1,w.heap.size+2]) (Bl.refl _ _) (fun k d=>.inl (d.imp (fun h=>h) (fun h=>yo.2 (.inl h))))
    exact ⟨h.name,h.e0,h.e1,h.e2,fun d=>h.lets (by omega),fun d=>h.crops (by omega),fun d=>h.reaches (by omega),fun d=>h.farms (by omega),fun d=>h.rots (by omega),fun d=>h.rights (by omega),fun _=>bs⟩)
   rw[cd] at B
   have cn:=yb B.o.ms
   clear bh cd bs B
   go_wp2
   refine hK.o _ _ ?_
   refine FF (P:=fun l=>Code.wp Try.prog _ _ ⟨l,[]⟩ wr) rfl ?_
   refine V7 (y:=(⟨y.name,y.season,y.cap,y.start,y.lets,y.crops,y.reaches,y.farms,y.rots,y.rights,(x.duties.map (E2 g))⟩:Aq)) Y.o f.o ?_ (by have h:=cn.o;rw[cj.o] at h;simpa[yl] using h) cw.o HQ.o
   exact ⟨rfl,rfl,rfl,rfl⟩
theorem FG{α:Type}{l:List α}{a:α}(h:a∈l):∃i,(a,i)∈l.zipIdx:=by
 obtain ⟨i,hi,rfl⟩:=xV h
 exact ⟨i,xw.2 (by simp[hi])⟩
theorem U5{x:Aq}(h:IB x):SH x:=by
 have c:=h.exprs
 unfold AK I9 F3 D9 F4 GB CY DH DJ at c
 simp only[yo,yN,yJ,zl,xp] at c
 have a:∀ {e:Ex} {k:Int},_->Bd e:=fun {e k} hh=>c (e,k) hh
 refine ⟨h,a (k:=0) (.inl (.inl rfl)),a (k:=0) (.inl (.inr (.inl rfl))),a (k:=0) (.inl (.inr (.inr rfl))),?_,?_,?_,?_,?_,?_,?_⟩
 ·intro d hd
  obtain ⟨i,hi⟩:=FG hd
  exact a (k:=1+(i:Int)) (.inr (.inl ⟨(d,i),hi,rfl⟩))
 ·intro d hd
  obtain ⟨i,hi⟩:=FG hd
  exact a (k:=0) (.inr (.inr (.inl ⟨(d,i),hi,rfl⟩)))
 ·intro d hd
  obtain ⟨i,hi⟩:=FG hd
  have b:∀ {e:Ex},_->Bd e:=fun {e} hh=>a (e:=e) (k:=0) (.inr (.inr (.inr (.inl ⟨(d,i),hi,hh⟩))))
  exact ⟨b (.inl rfl),b (.inr (.inl rfl)),b (.inr (.inr (.inl rfl))),b (.inr (.inr (.inr (.inl rfl)))),b (.inr (.inr (.inr (.inr (.inl rfl))))),b (.inr (.inr (.inr (.inr (.inr (.inl rfl)))))),b (.inr (.inr (.inr (.inr (.inr (.inr (.inl rfl))))))),b (.inr (.inr (.inr (.inr (.inr (.inr (.inr rfl)))))))⟩
 ·intro d hd
  obtain ⟨i,hi⟩:=FG hd
  exact a (k:=0) (.inr (.inr (.inr (.inr (.inl ⟨(d,i),hi,rfl⟩)))))
 ·intro d hd
  obtain ⟨i,hi⟩:=FG hd
  have b:∀ {e:Ex},_->Bd e:=fun {e} hh=>a (e:=e) (k:=0) (.inr (.inr (.inr (.inr (.inr (.inl ⟨(d,i),hi,hh⟩))))))
  refine ⟨⟨b (.inl (.inl rfl)),b (.inl (.inr (.inl rfl))),b (.inl (.inr (.inr rfl)))⟩,h.turns d hd,fun z g=>?_⟩
  obtain ⟨j,f⟩:=FG g
  exact b (.inr ⟨(z,j),f,rfl⟩)
 ·intro d hd
  obtain ⟨i,hi⟩:=FG hd
  have b:∀ {e:Ex},_->Bd e:=fun {e} hh=>a (e:=e) (k:=0) (.inr (.inr (.inr (.inr (.inr (.inr (.inl ⟨(d,i),hi,hh⟩)))))))
  exact ⟨b (.inl rfl),b (.inr (.inl rfl)),b (.inr (.inr (.inl rfl))),b (.inr (.inr (.inr (.inl rfl)))),b (.inr (.inr (.inr (.inr rfl))))⟩
 ·intro d hd
  obtain ⟨i,hi⟩:=FG hd
  exact a (k:=0) (.inr (.inr (.inr (.inr (.inr (.inr (.inr ⟨(d,i),hi,rfl⟩)))))))
section
variable{t:Tb}
mutual
theorem Ml:∀e:Ex,Bd e->Bd (Il t e)
 |.mk op n u rn ri args,h=>by
  rw[Bd] at h
  rw[Il,Bd,H6]
  exact ⟨h.1,Mm args h.2⟩
theorem Mm:∀l:List Ex,Ep l->Ep (Gr t l)
 |[],_=>by rw[Gr,Ep];trivial
 |e::r,h=>by
  rw[Ep] at h
  rw[Gr,Ep]
  exact ⟨Ml e h.1,Mm r h.2⟩
end
theorem Tn{x:Aq}(h:IB x):IB (x.mp (fT t) (gT t)):=by
 refine ⟨by simpa[Aq.mp] using h.lets,by simpa[Aq.mp] using h.crops,by simpa[Aq.mp] using h.reaches,by simpa[Aq.mp] using h.farms,by simpa[Aq.mp] using h.rots,by simpa[Aq.mp] using h.rights,by simpa[Aq.mp] using h.duties,?_,?_⟩
 ·intro d hd
  simp only[Aq.mp] at hd
  obtain ⟨i,hi,rfl⟩:=xV hd
  rw[zZ]
  have:=h.turns _ (yy (l:=x.rots) (n:=i) (by simpa using hi))
  simpa[B9.mp] using this
 ·intro e a
  rw[MO] at a
  obtain ⟨d,hd,rfl⟩:=zw.1 a
  have:=h.exprs d hd
  unfold QH fT
  simp only
  split
  ·exact this
  ·exact Ml _ this
end
end Go.Proofs.Ytghepahgkcigpaa
