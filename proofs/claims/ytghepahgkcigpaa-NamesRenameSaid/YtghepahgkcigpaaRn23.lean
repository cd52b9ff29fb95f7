/- Parts of the proof, in short words: Ah Ai Yt Zr Zs -/
import Derived.Test.YtghepahgkcigpaaRn0
import Derived.Test.YtghepahgkcigpaaRn15
import Derived.Deep.CutBlock
import Derived.Test.YtghepahgkcigpaaRn20
import Derived.Test.YtghepahgkcigpaaRn21
import Derived.Test.YtghepahgkcigpaaRn22
import Derived.StillTailTactics
set_option maxRecDepth 100000
set_option maxHeartbeats 32000000
set_option linter.unusedSimpArgs false
namespace Go.Proofs.Ytghepahgkcigpaa
open Go.RowKit
set_option linter.unusedSimpArgs false
set_option linter.unusedSimpArgs false

theorem No{B:Nat}{W W':World}{v:Value}{l:List Pl}{b:Nat}{c:Array Value}{t:TypeId}(a:Fq B W v l)(h:W.grownBy W' v.ownBlock)(hb:W.heap[b]?=some (.cells c t (0,0)))(f:t≠125):W'.heap[b]?=some (.cells c t (0,0)):=by
 refine (h.block b (ye.1 hb).1 fun e=>?_).trans hb
 rcases a.2 with ⟨rfl,_⟩|⟨g,cap,d,rfl,h4,h5,_⟩
 ·cases e
 ·simp only[Value.ownBlock,yY] at e
  subst e
  rw[hb] at h5
  simp only[yY,Obj.cells.injEq] at h5
  exact f h5.2.1
theorem Wv{N:NP}{w W:World}{cs:LV}{x:Am}{L:Bw}{v u0 u2 u4 u5 u6 u7 u8 u9 u10 u11 ht i7 u14 u15 u16 fv hp g8 fm f9 gd ig f2 gq er fz gz fu ga em eq hz hq fj ha h8 h7 fs fb gf f3 i0 fy ep hx fd f5 f0 hw hg ge ff ey f6 g3 ez gy i8 eo hr g6 hh gp hn fo gb fk ib fc el fg f8 gr ie gh f4 fa eu hj g9 gt ew fh gm ia gs f1 i1 f7 gl fe gx fl i6 hy gu gj gc e7 ci cz ck dx bn cx dq cn bw cm db cc b9 cp eb d3 cr bd dg d1 ec au da co eh cu dm d9 ea d0 cy dv dr d8 bb dj bu ek bg bt bv b8 d5 dc cw c8 eg aw ca e4 ee cg cf dt d2 c3 e5 bz cj bp c9 d4 dl bi dd ax du di ed dz cl dy bh dk az e3 av ei c7 ce ay ba d6 bj df dh d7 b3 b5:Value}(hv:Bb N w L cs x)(hN:∀b,N b->b < w.heap.size)(a7:Fw x)(hP:Ps w cs W v (Tc x)):
  Code.wp Try.prog (CJ 6 (Try.f62.body.getD .skip)) (bodyPost Try.prog Try.f62 (Hx w (CC x))) {tmps:=#[u0,.pointer (some ⟨w.heap.size,0,none⟩),u2,v,u4,u5,u6,u7,u8,u9,u10,u11,ht,i7,u14,u15,u16,fv,hp,g8,fm,f9,gd,ig,f2,gq,er,fz,gz,fu,ga,em,eq,hz,hq,fj,ha,h8,h7,fs,fb,gf,f3,i0,fy,ep,hx,fd,f5,f0,hw,hg,ge,ff,ey,f6,g3,ez,gy,i8,eo,hr,g6,hh,gp,hn,fo,gb,fk,ib,fc,el,fg,f8,gr,ie,gh,f4,fa,eu,hj,g9,gt,ew,fh,gm,ia,gs,f1,i1,f7,gl,fe,gx,fl,i6,hy,gu,gj,gc,e7,ci,cz,ck,dx,bn,cx,dq,cn,bw,cm,db,cc,b9,cp,eb,d3,cr,bd,dg,d1,ec,au,da,co,eh,cu,dm,d9,ea,d0,cy,dv,dr,d8,bb,dj,bu,ek,bg,bt,bv,b8,d5,dc,cw,c8,eg,aw,ca,e4,ee,cg,cf,dt,d2,c3,e5,bz,cj,bp,c9,d4,dl,bi,dd,ax,du,di,ed,dz,cl,dy,bh,dk,az,e3,av,ei,c7,ce,ay,ba,d6,bj,df,dh,d7,b3,b5],defers:=[]} W:=by
 obtain ⟨⟨a,n,c⟩,hL⟩:∃h:Ai,L.rots=h:=⟨_,rfl⟩
 obtain ⟨s0,s1,s2,e8,g0,g1,g2⟩:=hv.cells
 have ag:Hid (∀(W:World) (v:Value) (l:List Pl),Ps w cs W v l->W.cell? (aV w.heap.size 23)=some (.slice a n c)):=yb (by
  intro W v l h
  refine h.cell (p:=.string x.name::(s0++(s1++(s2++[L.lets.v,L.crops.v,L.reaches.v,L.farms.v])))) (q:=[L.rights.v,L.duties.v]) ?_ (by simp[g0.len,g1.len,g2.len])
  rw[e8,hL]
  simp[yp,Ai.v])
 obtain ⟨Y,ej,V⟩:=hv.rots
 rw[hL] at Y V
 have g5:=yb V
 have am:Hid (n=x.rots.length):=yb Y
 clear Y ej V
 have i2:Hid (x.rots.length<=1000):=yb (by have:=a7.rots;omega)
 have bm:Hid (n<=140737488355328):=yb (by have:=am.o;have:=i2.o;omega)
 have HV:=yb hv
 have HN:=yb hN
 have a2:=yb a7
 have fq:=yb (Hw a7)
 obtain ⟨I,hI⟩:∃I:Nat->Value->World->Prop,I=fun i v wr=>Ps w cs wr v (Tc x++(x.rots.take i).flatMap JQ):=⟨_,rfl⟩
 have HI:=yb hI
 have bo:Hid (I 0 v W):=yb (by rw[hI];simpa using hP)
 clear hv hN a7 hP hL e8 g0 g1 g2 hI
 refine Af fun K hK=>?_
 go_wp2
 go_loopw [3,9] (fun v3 iv wr=>∃i:Nat,iv=iV i∧i<=n∧Hid (I i v3 wr)) (fun _ iv _=>n - (intOf iv).toNat)
 case atStart=>exact ⟨0,rfl,yC _,bo⟩
 case round=>
  clear bo
  obtain ⟨i,rfl,hi,Z⟩:=hrel
  have e:Hid (Ps w cs wr u3 (Tc x++(x.rots.take i).flatMap JQ)):=yb (by have h:=Z.o;rw[HI.o] at h;exact h)
  clear Z
  have hf:=ag.o _ _ _ e.o
  have ih:n<=140737488355328:=bm.o
  by_cases en:i < n
  ·have a8:i < x.rots.length:=by rw[<-am.o];exact en
   have a6:(i:Int) < (n:Int):=by omega
   obtain ⟨bq,oq,M,he,a1,af,a0,F⟩:=g5.o i a8
   obtain rfl:a=some (aV bq oq):=he
   have P:(Tc x++(x.rots.take i).flatMap JQ).length<=10000:=by
    have h1:=Cw (l:=x.rots) (f:=JQ) (c:=71) (i:=i) (fun d hd=>PH (a2.o.turns d hd))
    have h2:=fq.o.p5;have h3:=a2.o.rots
    rw[yq]
    omega
   have ae:Hid (Tc x++(x.rots.take (i+1)).flatMap JQ=(Tc x++(x.rots.take i).flatMap JQ)++JQ x.rots[i]):=yb (by rw[BU a8,yp])
   have aq:x.rots[i].turns.length<=70:=a2.o.turns _ (yz a8)
   generalize hD:x.rots[i]=D at F ae aq
   clear hD
   generalize e9:Tc x++(x.rots.take i).flatMap JQ=u at ae e P
   clear e9
   have e6:=A2 a0 (e.o.below.block bq (HN.o bq a1))
   have ap:=L3 ⟨_,F⟩
   obtain ⟨s,⟨m,j⟩,r,e0,e1,e2,O⟩:=D
   obtain ⟨⟨ta,C,tc⟩,cq⟩:∃h:Ai,A4 L i=h:=⟨_,rfl⟩
   rw[cq] at F
   obtain ⟨h1,h2,c0,c1,c2,rfl,q0,q1,q2,k1,k2,k3⟩:=F
   clear cq
   obtain ⟨M,y⟩:∃M:LV,M=.string s::(.string m::iV j::(iV r::(c0++(c1++(c2++([.slice ta C tc])))))):=⟨_,rfl⟩
   have g4:Hid (wr.rangeAt bq (oq+i*23) M):=yb (by rw[y];simpa[An,Ai.v] using e6)
   have ah:Hid (M.length=23):=yb (by rw[y];simpa[An,Ai.v] using ap.1)
   have h9:Hid (∀v∈M,v.oneCell'=true):=yb (by rw[y];simpa[An,Ai.v] using ap.2)
   have aa:=yb y
   have ar:=yb (And.intro q0.len (And.intro q1.len q2.len))
   have ao:Hid (C=O.length):=yb k1
   have cd:Hid (O.length<=70):=yb aq
   have gk:C<=140737488355328:=by have:=ao.o;have:=cd.o;omega
   have go:=yb k3
   clear a0 af a1 a8 e6 ap y q0 q1 q2 h1 h2 k1 k2 k3 aq
   go_upto_region 23 with (first
    |(refine ym rfl 64 _ rfl bq (oq+i*23) rfl M _ g4.o qX rfl (AU (n:=23) (by kernel_rfl) ah.o) ?_)
    |(refine Ae rfl 64 _ _ rfl wr.heap.size rfl M rfl (World.alloc_heap_new _ _) (by rw[ah.o];rfl) (AU (n:=23) (by kernel_rfl) ah.o) h9.o ?_;intro S cv;have R:=yb cv;clear cv))
   clear hf a6
   have aj:=yb (AA R.o)
   have gg:S.cell? (aV wr.heap.size 0)=some (.string s):=Ee (row:=.string s::(.string m::iV j::(iV r::(c0++(c1++(c2++([.slice ta C tc]))))))) (by have h:=R.o.row;rw[aa.o] at h;exact h) (p:=[]) (q:=.string m::iV j::(iV r::(c0++(c1++(c2++([.slice ta C tc])))))) (by first|rfl|simp) (by simp)
   have be:=yb (Gb (c:=[Value.string m,iV j]) (o:=1) (row:=.string s::(.string m::iV j::(iV r::(c0++(c1++(c2++([.slice ta C tc]))))))) (by have h:=R.o.row;rw[aa.o] at h;exact h) (p:=[.string s]) (q:=iV r::(c0++(c1++(c2++([.slice ta C tc]))))) (by first|rfl|simp) (by simp))
   have ic:S.cell? (aV wr.heap.size 3)=some (iV r):=Ee (row:=.string s::(.string m::iV j::(iV r::(c0++(c1++(c2++([.slice ta C tc]))))))) (by have h:=R.o.row;rw[aa.o] at h;exact h) (p:=[.string s,.string m,iV j]) (q:=c0++(c1++(c2++([.slice ta C tc])))) (by first|rfl|simp) (by simp)
   have Q:Hid (Below S.heap.size S (S.alloc (.cells #[iV 6,.string s,.string m,iV j,.string {data:=#[]},iV 0,iV r,.bool false] 125))):=yb ((yg _ _).alloc (yf _) _)
   have z:Hid (Below wr.heap.size wr (S.alloc (.cells #[iV 6,.string s,.string m,iV j,.string {data:=#[]},iV 0,iV r,.bool false] 125))):=yb ((aj.o).trans (Q.o.mono (aj.o).size))
   have A:=yb (e.o.own.up z.o)
   have G:Hid ((S.alloc (.cells #[iV 6,.string s,.string m,iV j,.string {data:=#[]},iV 0,iV r,.bool false] 125)).heap[S.heap.size]?=some (.cells (([(⟨6,s,⟨m,j⟩,Ia,r,false⟩:Pl)]:List Pl).flatMap KM).toArray 125 (0,0))):=yb (World.alloc_heap_new S (.cells #[iV 6,.string s,.string m,iV j,.string {data:=#[]},iV 0,iV r,.bool false] 125))
   have g:Hid ((w.heap.size+1)<=(S.alloc (.cells #[iV 6,.string s,.string m,iV j,.string {data:=#[]},iV 0,iV r,.bool false] 125)).heap.size):=yb (yl e.o.size z.o.size)
   have H:Hid (u.length+1<=1000000):=yb (by omega)
   have g7:Hid (u.length<=10000):=yb P
   have T:Hid (S.heap[wr.heap.size]?=some (.cells M.toArray 64 (0,0))):=yb R.o.row
   clear P
   go_wp2_with (first|(refine ym rfl 23 _ rfl wr.heap.size 1 rfl [.string m,iV j] _ be.o qB rfl (by kernel_rfl) ?_)|(at_builtin;refine Ca (w.heap.size+1) rfl _ _ rfl u3 u rfl A.o (S.heap.size) 1 1 [(⟨6,s,⟨m,j⟩,Ia,r,false⟩:Pl)] rfl rfl G.o H.o g.o ?_;intro ft n5 c5 w5 B E;have ef:=yb B;have ch:Hid (Below (w.heap.size+1) wr w5):=yb (Fs (z.o.mono e.o.size) g.o A.o E);have dw:=yb E;clear B E))
   have ac:Hid (w5.heap[wr.heap.size]?=some (.cells M.toArray 64 (0,0))):=yb ((No A.o dw.o (c:=M.toArray) (t:=64) (by have h:=Q.o.block wr.heap.size (ye.1 T.o).1;exact h.trans T.o) (by decide)))
   obtain ⟨J,hJ⟩:∃J:Nat->Value->World->Prop,J=fun k v W=>Ps w cs W v (u++([(⟨6,s,⟨m,j⟩,Ia,r,false⟩:Pl)]++(O.take k).flatMap H9))∧W.heap[wr.heap.size]?=some (.cells M.toArray 64 (0,0)):=⟨_,rfl⟩
   have HJ:=yb hJ
   have Z:Hid (J 0 (.slice ft n5 c5) w5):=yb (by rw[hJ];refine ⟨?_,ac.o⟩;simpa using e.o.next ch.o ef.o)
   have ii:Hid (Below w.heap.size w wr):=yb e.o.below
   clear hJ ef ch dw ac T Q z A G g H gg ic be R aj e
   obtain ⟨wo,rfl⟩:∃wo:World,wo=wr:=⟨_,rfl⟩
   go_loopw [3,11] (fun v3 kv wr=>∃k:Nat,kv=iV k∧k<=C∧Hid (J k v3 wr)) (fun _ kv _=>C - (intOf kv).toNat)
   case atStart=>exact ⟨0,rfl,yC _,Z⟩
   case round=>
    clear Z
    obtain ⟨k,rfl,hk,b4⟩:=hrel
    have X:Hid (Ps w cs wr u3 (u++([(⟨6,s,⟨m,j⟩,Ia,r,false⟩:Pl)]++(O.take k).flatMap H9))∧wr.heap[wo.heap.size]?=some (.cells M.toArray 64 (0,0))):=yb (by have h:=b4.o;rw[HJ.o] at h;exact h)
    clear b4
    have hf:wr.cell? (aV wo.heap.size 22)=some (.slice ta C tc):=Ee (row:=.string s::(.string m::iV j::(iV r::(c0++(c1++(c2++([.slice ta C tc]))))))) (by have h:=X.o.2;rw[aa.o] at h;exact h) (p:=.string s::(.string m::iV j::(iV r::(c0++(c1++(c2)))))) (q:=[]) (by simp) (by simp[ar.o.1,ar.o.2.1,ar.o.2.2])
    by_cases hu:k < C
    ·have ak:k < O.length:=by rw[<-ao.o];exact hu
     have a6:(k:Int) < (C:Int):=by omega
     obtain ⟨tb,tz,ij,he,a1,af,a0,F⟩:=go.o k ak
     obtain rfl:ta=some (aV tb tz):=he
     have P:(u++([(⟨6,s,⟨m,j⟩,Ia,r,false⟩:Pl)]++(O.take k).flatMap H9)).length<=20000:=by
      have h1:=Cw (l:=O) (f:=H9) (c:=1) (i:=k) (fun _ _=>by simp[H9])
      have h2:=g7.o;have h3:=cd.o
      rw[yq,yq]
      simp only[yI,yM]
      omega
     have al:Hid (u++([(⟨6,s,⟨m,j⟩,Ia,r,false⟩:Pl)]++(O.take (k+1)).flatMap H9)=(u++([(⟨6,s,⟨m,j⟩,Ia,r,false⟩:Pl)]++(O.take k).flatMap H9))++H9 O[k]):=yb (by rw[BU ak];simp only[yp])
     generalize hD:O[k]=D at F al
     clear hD
     obtain ⟨⟨fn,fi⟩,de⟩:=D
     obtain ⟨hd,c,rfl,_⟩:=F
     have e:=yb X.o.1
     have ev:Hid (wr.rangeAt tb (tz+k*8) [.string fn,iV fi]):=yb (by
      have h:=A2 a0 (e.o.below.block tb (HN.o tb a1))
      have h2:=AO (p:=[]) (c:=[Value.string fn,iV fi]) (q:=c) (by simpa[An] using h)
      simpa using h2)
     clear a0 af a1 ak hd
     obtain ⟨ad,U⟩:∃l:List Pl,l=u++([(⟨6,s,⟨m,j⟩,Ia,r,false⟩:Pl)]++(O.take k).flatMap H9):=⟨_,rfl⟩
     rw[<-U] at e al P
     clear U
     have Q:Hid (Below wr.heap.size wr (wr.alloc (.cells #[iV 7,.string {data:=#[]},.string fn,iV fi,.string {data:=#[]},iV 0,iV 0,.bool false] 125))):=yb ((yg _ _).alloc (yf _) _)
     have z:Hid (Below wr.heap.size wr (wr.alloc (.cells #[iV 7,.string {data:=#[]},.string fn,iV fi,.string {data:=#[]},iV 0,iV 0,.bool false] 125))):=yb ((yg wr.heap.size wr).trans (Q.o.mono (yg wr.heap.size wr).size))
     have A:=yb (e.o.own.up z.o)
     have G:Hid ((wr.alloc (.cells #[iV 7,.string {data:=#[]},.string fn,iV fi,.string {data:=#[]},iV 0,iV 0,.bool false] 125)).heap[wr.heap.size]?=some (.cells (([(⟨7,{data:=#[]},⟨fn,fi⟩,Ia,0,false⟩:Pl)]:List Pl).flatMap KM).toArray 125 (0,0))):=yb (World.alloc_heap_new wr (.cells #[iV 7,.string {data:=#[]},.string fn,iV fi,.string {data:=#[]},iV 0,iV 0,.bool false] 125))
     have g:Hid ((w.heap.size+1)<=(wr.alloc (.cells #[iV 7,.string {data:=#[]},.string fn,iV fi,.string {data:=#[]},iV 0,iV 0,.bool false] 125)).heap.size):=yb (yl e.o.size z.o.size)
     have H:Hid (ad.length+1<=1000000):=yb (by omega)
     clear P
     go_wp2_with (first|(refine ym rfl 23 _ rfl tb (tz+k*8) rfl [.string fn,iV fi] _ ev.o qB rfl (by kernel_rfl) ?_)|(at_builtin;refine Ca (w.heap.size+1) rfl _ _ rfl u3 ad rfl A.o (wr.heap.size) 1 1 [(⟨7,{data:=#[]},⟨fn,fi⟩,Ia,0,false⟩:Pl)] rfl rfl G.o H.o g.o ?_;intro gn n6 c6 w6 B E;have fx:=yb B;have et:Hid (Below (w.heap.size+1) wr w6):=yb (Fs (z.o.mono e.o.size) g.o A.o E);have fp:=yb E;clear B E))
     have hm:Hid (J (k+1) (.slice gn n6 c6) w6):=yb (by
      rw[HJ.o]
      refine ⟨?_,No A.o fp.o (c:=M.toArray) (t:=64) ((Q.o.block wo.heap.size (ye.1 X.o.2).1).trans X.o.2) (by decide)⟩
      show Ps w cs w6 _ (u++([(⟨6,s,⟨m,j⟩,Ia,r,false⟩:Pl)]++(O.take (k+1)).flatMap H9))
      rw[al.o]
      exact e.o.next et.o fx.o)
     exact ⟨⟨k+1,by push_cast;rfl,by omega,hm⟩,by simp[intOf];omega⟩
    ·obtain rfl:k=C:=by omega
     have a6:decide ((k:Int) < (k:Int))=false:=by simp
     have ho:Hid (I (i+1) u3 wr):=yb (by
      rw[HI.o]
      show Ps w cs wr u3 (Tc x++(x.rots.take (i+1)).flatMap JQ)
      rw[ae.o]
      have h:=X.o.1
      rw[ao.o,yx] at h
      exact h)
     go_wp2
     exact ⟨⟨i+1,by push_cast;rfl,by omega,ho⟩,by simp[intOf];omega⟩
  ·obtain rfl:i=n:=by omega
   have a6:decide ((i:Int) < (i:Int))=false:=by simp
   have gi:Hid (Ps w cs wr u3 (Tc x++x.rots.flatMap JQ)):=yb (by
    have h:=e.o
    rw[am.o,yx] at h
    exact h)
   clear e
   go_wp2
   exact hK.o _ _ (Wu HV.o HN.o a2.o gi.o)
theorem O9{o:Oper}{a:Act}{K:Act->World->Prop}{Q:QT}{W:World}(B:Nat)(s x:Operand)(A:o.op=.call {callee:=.builtin .append,args:=#[s,x],argTypes:=#[122,122]})
 (v:Value)(l:List Pl)(hs:a.eval s=v)(p:Fq B W v l)(g m c:Nat)(d:List Pl)(F:a.eval x=.slice (some ⟨g,0,none⟩) m c)(C:m=d.length)(E:W.heap[g]?=some (.cells (d.flatMap KM).toArray 125 (0,0)))
 (w:l.length+d.length<=1000000)(k:B<=W.heap.size)
 (h:∀(t:Option Addr) (n c:Nat) w',Fq B w' (.slice t n c) (l++d)->W.grownBy w' v.ownBlock->K (a.put o.dst (.slice t n c)) w'):Oper.wp Try.prog o a W K Q:=by
 subst C
 have h0:((Try.prog.info? 125).bind fun i=>i.zero.map fun z=>(i.size,z.cells.size,i.bytes))=some (8,8,88):=by kernel_rfl
 cases e:Try.prog.info? 125 with
 |none=>rw[e] at h0;cases h0
 |some i0=>
  rw[e] at h0
  cases r:i0.zero with
  |none=>simp[r] at h0
  |some z=>
  simp only[r,xJ,xT,yY,zw] at h0
  obtain ⟨y,G,D⟩:=h0
  have f:∀j u,(d.flatMap KM)[j]?=some u->W.cell? (((aV g 0):Addr).add j)=some u:=fun j u H=>by
   rw[zD]
   simp only[World.cell?,E]
   simpa using H
  refine qu W s x 122 A B 125 i0 z 8 88 qw e r y D G (by decide) v l.length _ hs p (aV g 0) d.length c (d.flatMap KM) F (JR d).1 f (JR d).2 (by unfold maxLen;omega) (by omega) k ?_
  intro v' w' b q _
  obtain ⟨va,I,vc,rfl⟩:=CY b
  exact (h va I vc w' (by unfold Fq;rw[yq,zG];exact b) q)
theorem Ww{N:NP}{w W:World}{cs:LV}{x:Am}{L:Bw}{v u0 u2 u4 u5 u6 u7 u8 u9 u10 u11 gr fj u14 u15 u16 f3 gk gd ee fm gq gy ez ey ei fo fi f2 gj e7 ej e5 gl dz g6 fu fk ep fv dv f0 er f9 eg dw g5 f6 eq gs g9 gt gh em fd fp en ff ft ef gm g8 gb eu ge eh gn e9 g4 fx du go fl f7 gx dx f5 fq ek gc gf fa el dy ea fy f8 ev ew fh e8 ga fc ed fe e3 fb e6 gp bz c3 dj cc ap cy df dh cq X cm bw aj b3 cv cn ag d3 bd ch V cu U bp cw dk d6 d9 bo ci R di Y dl bj b9 co dg dq c9 da T az b4 ca dc ac db a2 ae b5 d4 ay al dr a8 a6 bm a1 c8 d8 ad ao d5 cg cd a7 dt cp cz ar cj aq ce d1 ah aw a0 dm aa ak af b8 ba ck cf cl be am av:Value}(hv:Bb N w L cs x)(hN:∀b,N b->b < w.heap.size)(z:Fw x)(hP:Ps w cs W v (Ta x)):
  Code.wp Try.prog (CJ 5 (Try.f62.body.getD .skip)) (bodyPost Try.prog Try.f62 (Hx w (CC x))) {tmps:=#[u0,.pointer (some ⟨w.heap.size,0,none⟩),u2,v,u4,u5,u6,u7,u8,u9,u10,u11,gr,fj,u14,u15,u16,f3,gk,gd,ee,fm,gq,gy,ez,ey,ei,fo,fi,f2,gj,e7,ej,e5,gl,dz,g6,fu,fk,ep,fv,dv,f0,er,f9,eg,dw,g5,f6,eq,gs,g9,gt,gh,em,fd,fp,en,ff,ft,ef,gm,g8,gb,eu,ge,eh,gn,e9,g4,fx,du,go,fl,f7,gx,dx,f5,fq,ek,gc,gf,fa,el,dy,ea,fy,f8,ev,ew,fh,e8,ga,fc,ed,fe,e3,fb,e6,gp,bz,c3,dj,cc,ap,cy,df,dh,cq,X,cm,bw,aj,b3,cv,cn,ag,d3,bd,ch,V,cu,U,bp,cw,dk,d6,d9,bo,ci,R,di,Y,dl,bj,b9,co,dg,dq,c9,da,T,az,b4,ca,dc,ac,db,a2,ae,b5,d4,ay,al,dr,a8,a6,bm,a1,c8,d8,ad,ao,d5,cg,cd,a7,dt,cp,cz,ar,cj,aq,ce,d1,ah,aw,a0,dm,aa,ak,af,b8,ba,ck,cf,cl,be,am,av],defers:=[]} W:=by
 obtain ⟨⟨a,n,c⟩,hL⟩:∃h:Ai,L.farms=h:=⟨_,rfl⟩
 obtain ⟨s0,s1,s2,c6,g0,g1,g2⟩:=hv.cells
 have O:Hid (∀(W:World) (v:Value) (l:List Pl),Ps w cs W v l->W.cell? (aV w.heap.size 22)=some (.slice a n c)):=yb (by
  intro W v l h
  refine h.cell (p:=.string x.name::(s0++(s1++(s2++[L.lets.v,L.crops.v,L.reaches.v])))) (q:=[L.rots.v,L.rights.v,L.duties.v]) ?_ (by simp[g0.len,g1.len,g2.len])
  rw[c6,hL]
  simp[yp,Ai.v])
 have G:Av N w 12 (E7 N w) ⟨a,n,c⟩ x.farms:=hL▸hv.farms
 have fz:=yb G.2.2
 have M:Hid (n=x.farms.length):=yb G.1
 clear G
 have f1:Hid (x.farms.length<=1000):=yb (by have:=z.farms;omega)
 have cr:Hid (n<=140737488355328):=yb (by have:=M.o;have:=f1.o;omega)
 have HV:=yb hv
 have HN:=yb hN
 have bh:=yb z
 have eo:=yb (Hw z)
 obtain ⟨I,hI⟩:∃I:Nat->Value->World->Prop,I=fun i v wr=>Ps w cs wr v (Ta x++(x.farms.take i).flatMap Gy):=⟨_,rfl⟩
 have HI:=yb hI
 have d0:Hid (I 0 v W):=yb (by rw[hI];simpa using hP)
 clear hv hN z hP hL c6 g0 g1 g2 hI
 refine Af fun K hK=>?_
 go_wp2
 go_loopw [3,7] (fun v3 iv wr=>∃i:Nat,iv=iV i∧i<=n∧Hid (I i v3 wr)) (fun _ iv _=>n - (intOf iv).toNat)
 case atStart=>exact ⟨0,rfl,yC _,d0⟩
 case round=>
  clear d0
  obtain ⟨i,rfl,hi,dd⟩:=hrel
  have d:Hid (Ps w cs wr u3 (Ta x++(x.farms.take i).flatMap Gy)):=yb (by have h:=dd.o;rw[HI.o] at h;exact h)
  clear dd
  have hf:=O.o _ _ _ d.o
  have gz:n<=140737488355328:=cr.o
  by_cases ec:i < n
  ·have E:i < x.farms.length:=by rw[<-M.o];exact ec
   have bu:(i:Int) < (n:Int):=by omega
   obtain ⟨bq,oq,A,he,bg,g7,ax,H⟩:=fz.o i E
   obtain rfl:a=some (aV bq oq):=he
   have Z:(Ta x++(x.farms.take i).flatMap Gy).length<=10000:=by
    have h1:=Cw (l:=x.farms) (f:=Gy) (c:=1) (i:=i) (fun _ _=>by simp[Gy])
    have h2:=eo.o.p4;have h3:=bh.o.farms
    rw[yq]
    omega
   have C:Hid (Ta x++(x.farms.take (i+1)).flatMap Gy=(Ta x++(x.farms.take i).flatMap Gy)++Gy x.farms[i]):=yb (by rw[BU E,yp])
   generalize hD:x.farms[i]=D at H C
   clear hD
   generalize c7:Ta x++(x.farms.take i).flatMap Gy=cx at C d Z
   clear c7
   have bv:=A2 ax (d.o.below.block bq (HN.o bq bg))
   have P:=JI H
   obtain ⟨r,⟨m,k⟩,rv,de,⟨g,e⟩⟩:=D
   obtain ⟨h1,h2,h3,c,rfl,hx⟩:=H
   obtain ⟨A,j⟩:∃A:LV,A=.string r::(.string m::iV k::(.bool rv::(c++([.string g,iV e])))):=⟨_,rfl⟩
   have fs:Hid (wr.rangeAt bq (oq+i*12) A):=yb (by rw[j];simpa[An] using bv)
   have F:Hid (A.length=12):=yb (by rw[j];simpa[An] using P.1)
   have g3:Hid (∀v∈A,v.oneCell'=true):=yb (by rw[j];simpa[An] using P.2)
   have gu:=yb hx.len
   have y:=yb j
   clear ax g7 bg E bv P j hx h1 h2 h3
   go_upto_region 18 with (first
    |(refine ym rfl 59 _ rfl bq (oq+i*12) rfl A _ fs.o qV rfl (AU (n:=12) (by kernel_rfl) F.o) ?_)
    |(refine Ae rfl 59 _ _ rfl wr.heap.size rfl A rfl (World.alloc_heap_new _ _) (by rw[F.o];rfl) (AU (n:=12) (by kernel_rfl) F.o) g3.o ?_;intro t d7;have u:=yb d7;clear d7))
   clear hf bu
   have d2:=yb (AA u.o)
   have h7:t.cell? (aV wr.heap.size 0)=some (.string r):=Ee (row:=.string r::(.string m::iV k::(.bool rv::(c++([.string g,iV e]))))) (by have h:=u.o.row;rw[y.o] at h;exact h) (p:=[]) (q:=.string m::iV k::(.bool rv::(c++([.string g,iV e])))) (by first|rfl|simp) (by simp)
   have fg:=yb (Gb (c:=[Value.string m,iV k]) (o:=1) (row:=.string r::(.string m::iV k::(.bool rv::(c++([.string g,iV e]))))) (by have h:=u.o.row;rw[y.o] at h;exact h) (p:=[.string r]) (q:=.bool rv::(c++([.string g,iV e]))) (by first|rfl|simp) (by simp))
   have h8:t.cell? (aV wr.heap.size 3)=some (.bool rv):=Ee (row:=.string r::(.string m::iV k::(.bool rv::(c++([.string g,iV e]))))) (by have h:=u.o.row;rw[y.o] at h;exact h) (p:=.string r::([.string m,iV k])) (q:=c++([.string g,iV e])) (by first|rfl|simp) (by simp)
   have bt:=yb (Gb (c:=[Value.string g,iV e]) (o:=10) (row:=.string r::(.string m::iV k::(.bool rv::(c++([.string g,iV e]))))) (by have h:=u.o.row;rw[y.o] at h;exact h) (p:=.string r::(.string m::iV k::(.bool rv::(c)))) (q:=[]) (by first|rfl|simp) (by simp[gu.o]))
   have eb:Hid (Below t.heap.size t (t.alloc (.cells #[iV 5,.string r,.string m,iV k,.string g,iV e,iV 0,.bool rv] 125))):=yb ((yg _ _).alloc (yf _) _)
   have J:Hid (Below wr.heap.size wr (t.alloc (.cells #[iV 5,.string r,.string m,iV k,.string g,iV e,iV 0,.bool rv] 125))):=yb ((d2.o).trans (eb.o.mono (d2.o).size))
   have S:=yb (d.o.own.up J.o)
   have bb:Hid ((t.alloc (.cells #[iV 5,.string r,.string m,iV k,.string g,iV e,iV 0,.bool rv] 125)).heap[t.heap.size]?=some (.cells (([(⟨5,r,⟨m,k⟩,⟨g,e⟩,0,rv⟩:Pl)]:List Pl).flatMap KM).toArray 125 (0,0))):=yb (World.alloc_heap_new t (.cells #[iV 5,.string r,.string m,iV k,.string g,iV e,iV 0,.bool rv] 125))
   have s:Hid ((w.heap.size+1)<=(t.alloc (.cells #[iV 5,.string r,.string m,iV k,.string g,iV e,iV 0,.bool rv] 125)).heap.size):=yb (yl d.o.size J.o.size)
   have au:Hid (cx.length+1<=1000000):=yb (by omega)
   clear Z
   go_wp2_with (first|(refine ym rfl 23 _ rfl wr.heap.size 1 rfl [.string m,iV k] _ fg.o qB rfl (by kernel_rfl) ?_)|(refine ym rfl 23 _ rfl wr.heap.size 10 rfl [.string g,iV e] _ bt.o qB rfl (by kernel_rfl) ?_)|(at_builtin;refine Ca (w.heap.size+1) rfl _ _ rfl u3 cx rfl S.o (t.heap.size) 1 1 [(⟨5,r,⟨m,k⟩,⟨g,e⟩,0,rv⟩:Pl)] rfl rfl bb.o au.o s.o ?_;intro et n5 c5 w5 B Q;have gi:=yb B;have f4:Hid (Below (w.heap.size+1) wr w5):=yb (Fs (J.o.mono d.o.size) s.o S.o Q);clear B Q))
   have gg:Hid (I (i+1) (.slice et n5 c5) w5):=yb (by rw[HI.o];show Ps w cs w5 _ (Ta x++(x.farms.take (i+1)).flatMap Gy);rw[C.o];exact d.o.next f4.o gi.o)
   exact ⟨⟨i+1,by push_cast;rfl,by omega,gg⟩,by simp[intOf];omega⟩
  ·obtain rfl:i=n:=by omega
   have bu:decide ((i:Int) < (i:Int))=false:=by simp
   have e4:Hid (Ps w cs wr u3 (Ta x++x.farms.flatMap Gy)):=yb (by
    have h:=d.o
    rw[M.o,yx] at h
    exact h)
   clear d
   go_wp2
   exact hK.o _ _ (Wv HV.o HN.o bh.o e4.o)
theorem Wx{N:NP}{w W:World}{cs:LV}{x:Am}{L:Bw}{v u0 u2 u4 u5 u6 u7 u8 u9 u10 u11 gq fk u14 u15 u16 f5 gj gc ef fm gp gu f1 f0 ej fo fj f4 gi e8 ek dy gk dv g5 fu fl er fv dq f2 eu fb eg dr g4 f7 et gr g8 gs gg eo ff fp ep fh ft eh gl g7 ga ew gd ei gm ea g3 fx dl gn fq f8 gt dt f6 fs el gb ge fc en du eb fy fa ey ez fi e9 g9 fe ee fg dw fd dz go bo bp de c8 am cv da dc cl T ck bn ag ay cr cm ae cz ba ce S cp R bm cq df d2 d4 bj cg M dd U dg bg b5 cn db di bw d5 Q ax az bz d7 a8 d6 a0 ac b3 d0 aw aj dj a6 a1 bi Z bv d3 aa al d1 cd c9 a2 dk d8 cw ap ch ao ca cy af au Y dh a7 ah ad b4 b8 ci cc cj bb ak ar:Value}(hv:Bb N w L cs x)(hN:∀b,N b->b < w.heap.size)(z:Fw x)(hP:Ps w cs W v (T9 x)):
  Code.wp Try.prog (CJ 4 (Try.f62.body.getD .skip)) (bodyPost Try.prog Try.f62 (Hx w (CC x))) {tmps:=#[u0,.pointer (some ⟨w.heap.size,0,none⟩),u2,v,u4,u5,u6,u7,u8,u9,u10,u11,gq,fk,u14,u15,u16,f5,gj,gc,ef,fm,gp,gu,f1,f0,ej,fo,fj,f4,gi,e8,ek,dy,gk,dv,g5,fu,fl,er,fv,dq,f2,eu,fb,eg,dr,g4,f7,et,gr,g8,gs,gg,eo,ff,fp,ep,fh,ft,eh,gl,g7,ga,ew,gd,ei,gm,ea,g3,fx,dl,gn,fq,f8,gt,dt,f6,fs,el,gb,ge,fc,en,du,eb,fy,fa,ey,ez,fi,e9,g9,fe,ee,fg,dw,fd,dz,go,bo,bp,de,c8,am,cv,da,dc,cl,T,ck,bn,ag,ay,cr,cm,ae,cz,ba,ce,S,cp,R,bm,cq,df,d2,d4,bj,cg,M,dd,U,dg,bg,b5,cn,db,di,bw,d5,Q,ax,az,bz,d7,a8,d6,a0,ac,b3,d0,aw,aj,dj,a6,a1,bi,Z,bv,d3,aa,al,d1,cd,c9,a2,dk,d8,cw,ap,ch,ao,ca,cy,af,au,Y,dh,a7,ah,ad,b4,b8,ci,cc,cj,bb,ak,ar],defers:=[]} W:=by
 obtain ⟨⟨a,n,c⟩,hL⟩:∃h:Ai,L.reaches=h:=⟨_,rfl⟩
 obtain ⟨s0,s1,s2,bt,g0,g1,g2⟩:=hv.cells
 have H:Hid (∀(W:World) (v:Value) (l:List Pl),Ps w cs W v l->W.cell? (aV w.heap.size 21)=some (.slice a n c)):=yb (by
  intro W v l h
  refine h.cell (p:=.string x.name::(s0++(s1++(s2++[L.lets.v,L.crops.v])))) (q:=[L.farms.v,L.rots.v,L.rights.v,L.duties.v]) ?_ (by simp[g0.len,g1.len,g2.len])
  rw[bt,hL]
  simp[yp,Ai.v])
 have E:Av N w 51 (CT N w) ⟨a,n,c⟩ x.reaches:=hL▸hv.reaches
 have fz:=yb E.2.2
 have G:Hid (n=x.reaches.length):=yb E.1
 clear E
 have f3:Hid (x.reaches.length<=1000):=yb (by have:=z.reaches;omega)
 have co:Hid (n<=140737488355328):=yb (by have:=G.o;have:=f3.o;omega)
 have HV:=yb hv
 have HN:=yb hN
 have be:=yb z
 have eq:=yb (Hw z)
 obtain ⟨I,hI⟩:∃I:Nat->Value->World->Prop,I=fun i v wr=>Ps w cs wr v (T9 x++(x.reaches.take i).flatMap ED):=⟨_,rfl⟩
 have HI:=yb hI
 have cx:Hid (I 0 v W):=yb (by rw[hI];simpa using hP)
 clear hv hN z hP hL bt g0 g1 g2 hI
 refine Af fun K t=>?_
 go_wp2
 go_loopw [3,6] (fun v3 iv wr=>∃i:Nat,iv=iV i∧i<=n∧Hid (I i v3 wr)) (fun _ iv _=>n - (intOf iv).toNat)
 case atStart=>exact ⟨0,rfl,yC _,cx⟩
 case round=>
  clear cx
  obtain ⟨i,rfl,hi,d9⟩:=hrel
  have e:Hid (Ps w cs wr u3 (T9 x++(x.reaches.take i).flatMap ED)):=yb (by have h:=d9.o;rw[HI.o] at h;exact h)
  clear d9
  have hf:=H.o _ _ _ e.o
  have gx:n<=140737488355328:=co.o
  by_cases ed:i < n
  ·have C:i < x.reaches.length:=by rw[<-G.o];exact ed
   have f9:(i:Int) < (n:Int):=by omega
   obtain ⟨g,j,ct,he,bd,g6,av,cf⟩:=fz.o i C
   obtain rfl:a=some (aV g j):=he
   have X:(T9 x++(x.reaches.take i).flatMap ED).length<=10000:=by
    have h1:=Cw (l:=x.reaches) (f:=ED) (c:=1) (i:=i) (fun _ _=>by simp[ED])
    have h2:=eq.o.p3;have h3:=be.o.reaches
    rw[yq]
    omega
   have B:Hid (T9 x++(x.reaches.take (i+1)).flatMap ED=(T9 x++(x.reaches.take i).flatMap ED)++ED x.reaches[i]):=yb (by rw[BU C,yp])
   generalize hD:x.reaches[i]=D at cf B
   clear hD
   generalize bu:T9 x++(x.reaches.take i).flatMap ED=cu at B e X
   clear bu
   have F:=A2 av (e.o.below.block g (HN.o g bd))
   obtain ⟨k,⟨r,m⟩,e0,e1,e2,e3,e4,e5,e6,e7⟩:=D
   obtain ⟨gy,hdr,c0,c1,c2,c3,c4,c5,c6,c7,rfl,_⟩:=cf
   have dm:wr.cell? (aV g (j+i*51))=some (.string k):=by simpa using O8 (p:=[]) F
   have em:Hid (wr.rangeAt g (j+i*51+1) (An ⟨r,m⟩)):=yb (AO (p:=[Value.string k]) (c:=An ⟨r,m⟩) F)
   clear av g6 C F
   go_upto_region 13 with fail
   have d:Hid (Below (w.heap.size+1) wr wr.drew):=yb ((yg _ _).drew)
   have O:Hid (g < w.heap.size):=yb (HN.o g bd)
   refine wp_region_noPanic ?_
   refine BZ (by kernel_rfl) (fun V=>Below (w.heap.size+1) wr V) 16 ?_
   have ec:Hid (Below wr.drew.heap.size wr.drew (wr.drew.alloc (.cells #[iV 4,.string k,.string r,iV m,.string {data:=#[]},iV 0,iV 0,.bool false] 125))):=yb ((yg _ _).alloc (yf _) _)
   have y:Hid (Below wr.heap.size wr (wr.drew.alloc (.cells #[iV 4,.string k,.string r,iV m,.string {data:=#[]},iV 0,iV 0,.bool false] 125))):=yb (((yg wr.heap.size wr).drew).trans (ec.o.mono ((yg wr.heap.size wr).drew).size))
   have P:=yb (e.o.own.up y.o)
   have b9:Hid ((wr.drew.alloc (.cells #[iV 4,.string k,.string r,iV m,.string {data:=#[]},iV 0,iV 0,.bool false] 125)).heap[wr.drew.heap.size]?=some (.cells (([(⟨4,k,⟨r,m⟩,Ia,0,false⟩:Pl)]:List Pl).flatMap KM).toArray 125 (0,0))):=yb (World.alloc_heap_new wr.drew (.cells #[iV 4,.string k,.string r,iV m,.string {data:=#[]},iV 0,iV 0,.bool false] 125))
   have s:Hid ((w.heap.size+1)<=(wr.drew.alloc (.cells #[iV 4,.string k,.string r,iV m,.string {data:=#[]},iV 0,iV 0,.bool false] 125)).heap.size):=yb (yl e.o.size y.o.size)
   have aq:Hid (cu.length+1<=1000000):=yb (by omega)
   clear X
   refine A1 (i:=0) (v:=u3) rfl (by kernel_rfl) (by kernel_rfl) (by kernel_rfl) (fun _ _ _ h=>h) (by kernel_rfl) (Or.inl ⟨by rfl,?_⟩) (fun _=>d.o) ?_
   ·intro w _;go_simp
   refine A1 (i:=1) (v:=pV w.heap.size 21) rfl (by kernel_rfl) (by kernel_rfl) (by kernel_rfl) (fun _ _ _ h=>h) (by kernel_rfl) (Or.inl ⟨by rfl,?_⟩) (fun _=>d.o) ?_
   ·intro w _;go_simp
   refine Aj (i:=2) (v:=.slice (some (aV g j)) n c) rfl (by kernel_rfl) (by kernel_rfl) (by kernel_rfl) (fun _ _ _ h=>h) (by kernel_rfl) (Or.inl ⟨by rfl,?_⟩) d.o ?_
   ·intro W u
    have hc:W.cell? (aV w.heap.size 21)=some (.slice (some (aV g j)) n c):=(u.cell (p:=(aV w.heap.size 21)) (by simp)).trans hf
    clear u
    go_simp
   refine A1 (i:=3) (v:=iV i) rfl (by kernel_rfl) (by kernel_rfl) (by kernel_rfl) (fun _ _ _ h=>h) (by kernel_rfl) (Or.inl ⟨by rfl,?_⟩) (fun _=>d.o) ?_
   ·intro w _;go_simp
   refine A1 (i:=4) (v:=pV g (j+i*51)) rfl (by kernel_rfl) (by kernel_rfl) (by kernel_rfl) (fun _ _ _ h=>h) (by kernel_rfl) (Or.inl ⟨by rfl,?_⟩) (fun _=>d.o) ?_
   ·intro w _;go_simp
   refine A1 (i:=5) (v:=pV g (j+i*51)) rfl (by kernel_rfl) (by kernel_rfl) (by kernel_rfl) (fun _ _ _ h=>h) (by kernel_rfl) (Or.inl ⟨by rfl,?_⟩) (fun _=>d.o) ?_
   ·intro w _;go_simp
   refine Aj (i:=6) (v:=.string k) rfl (by kernel_rfl) (by kernel_rfl) (by kernel_rfl) (fun _ _ _ h=>h) (by kernel_rfl) (Or.inl ⟨by rfl,?_⟩) d.o ?_
   ·intro W u
    have hc:W.cell? (aV g (j+i*51))=some (.string k):=(u.cell (p:=(aV g (j+i*51))) (by have:=O.o;simp only;omega)).trans dm
    clear u
    go_simp
   refine A1 (i:=7) (v:=pV w.heap.size 21) rfl (by kernel_rfl) (by kernel_rfl) (by kernel_rfl) (fun _ _ _ h=>h) (by kernel_rfl) (Or.inl ⟨by rfl,?_⟩) (fun _=>d.o) ?_
   ·intro w _;go_simp
   refine Aj (i:=8) (v:=.slice (some (aV g j)) n c) rfl (by kernel_rfl) (by kernel_rfl) (by kernel_rfl) (fun _ _ _ h=>h) (by kernel_rfl) (Or.inl ⟨by rfl,?_⟩) d.o ?_
   ·intro W u
    have hc:W.cell? (aV w.heap.size 21)=some (.slice (some (aV g j)) n c):=(u.cell (p:=(aV w.heap.size 21)) (by simp)).trans hf
    clear u
    go_simp
   refine A1 (i:=9) (v:=iV i) rfl (by kernel_rfl) (by kernel_rfl) (by kernel_rfl) (fun _ _ _ h=>h) (by kernel_rfl) (Or.inl ⟨by rfl,?_⟩) (fun _=>d.o) ?_
   ·intro w _;go_simp
   refine A1 (i:=10) (v:=pV g (j+i*51)) rfl (by kernel_rfl) (by kernel_rfl) (by kernel_rfl) (fun _ _ _ h=>h) (by kernel_rfl) (Or.inl ⟨by rfl,?_⟩) (fun _=>d.o) ?_
   ·intro w _;go_simp
   refine A1 (i:=11) (v:=pV g (j+i*51+1)) rfl (by kernel_rfl) (by kernel_rfl) (by kernel_rfl) (fun _ _ _ h=>h) (by kernel_rfl) (Or.inl ⟨by rfl,?_⟩) (fun _=>d.o) ?_
   ·intro w _;go_simp
   refine Aj (i:=12) (v:=.agg (An ⟨r,m⟩).toArray) rfl (by kernel_rfl) (by kernel_rfl) (by kernel_rfl) (fun _ _ _ h=>h) (by kernel_rfl) (yS (by rfl) 23 _ rfl (g) (j+i*51+1) (by kernel_rfl) (An ⟨r,m⟩) _ (fun W u=>A2 em.o (u.block g (Nat.lt_succ_of_lt O.o))) qB rfl (Xx _)) d.o ?_
   refine A1 (i:=13) (v:=.agg #[iV 4,.string k,.string r,iV m,.string {data:=#[]},iV 0,iV 0,.bool false]) rfl (by kernel_rfl) (by kernel_rfl) (by kernel_rfl) (fun _ _ _ h=>h) (by kernel_rfl) (Or.inl ⟨by rfl,?_⟩) (fun _=>d.o) ?_
   ·intro w _;simp only[An];go_simp
   refine A0 (i:=14) (by kernel_rfl) rfl (fun K t=>?_)
   go_simp
   refine t.o _ _ (fun _=>y.o.mono e.o.size) ?_
   clear t K
   refine A0 (i:=15) (by kernel_rfl) rfl (fun K t=>?_)
   rw[yw (by rfl)]
   refine O9 (w.heap.size+1) _ _ rfl u3 cu rfl P.o wr.drew.heap.size 1 1 [(⟨4,k,⟨r,m⟩,Ia,0,false⟩:Pl)] rfl rfl b9.o aq.o s.o ?_
   intro ev n5 c5 w5 A J
   have gh:=yb A
   have bh:Hid (Below (w.heap.size+1) wr w5):=yb (Fs (y.o.mono e.o.size) s.o P.o J)
   refine t.o _ _ (fun _=>bh.o) ?_
   clear t K A J
   refine A0 (i:=16) (by kernel_rfl) rfl (fun K t=>?_)
   go_simp
   refine t.o _ _ (by intro h;cases h) ?_
   clear t K
   refine AF (by kernel_rfl) ?_
   refine NoPanic.normal ?_
   go_wp2
   have gf:Hid (I (i+1) (.slice ev n5 c5) w5):=yb (by rw[HI.o];show Ps w cs w5 _ (T9 x++(x.reaches.take (i+1)).flatMap ED);rw[B.o];exact e.o.next bh.o gh.o)
   exact ⟨⟨i+1,by push_cast;rfl,by omega,gf⟩,by simp[intOf];omega⟩
  ·obtain rfl:i=n:=by omega
   have f9:decide ((i:Int) < (i:Int))=false:=by simp
   have dx:Hid (Ps w cs wr u3 (T9 x++x.reaches.flatMap ED)):=yb (by
    have h:=e.o
    rw[G.o,yx] at h
    exact h)
   clear e
   go_wp2
   exact t.o _ _ (Ww HV.o HN.o be.o dx.o)
end Go.Proofs.Ytghepahgkcigpaa
