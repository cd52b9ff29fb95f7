/- Parts of the proof, in short words: Qb Va -/
import Derived.Test.YtjofgpfocadomaaGreatDoorUc0
import Derived.Test.YtjofgpfocadomaaGreatDoorUc3
import Derived.RecoverIn
set_option maxRecDepth 100000
set_option maxHeartbeats 8000000
set_option linter.unusedSimpArgs false
namespace Go.Proofs.YtjofgpfocadomaaGreatDoor
open Go.RowKit
def Dj:LV:=[.string ⟨#[]⟩,.int .i64 0,.int .i64 0,.int .i64 0,.string ⟨#[]⟩,.int .i64 0,.slice none 0 0,.int .i64 0,.int .i64 0,.int .i64 0,.string ⟨#[]⟩,.int .i64 0,.slice none 0 0,.int .i64 0,.int .i64 0,.int .i64 0,.string ⟨#[]⟩,.int .i64 0,.slice none 0 0,.slice none 0 0,.slice none 0 0,.slice none 0 0,.slice none 0 0,.slice none 0 0,.slice none 0 0,.slice none 0 0]
theorem Md(n Bx b:Nat)(f:Bx≠b)(c:Int)(row:Array Value)(v:Value)(w:World)(j:w.heap[Bx]?=some (.cells row 35 (0,0)))(d:row.size=26)(i:w.heap[b]?=some (.cells #[v] 40 (0,0))):
  CallsDIn Fence.wide n Tryz.prog 43 #[.pointer (some ⟨Bx,0,none⟩),.pointer (some ⟨b,0,none⟩)] (.panicking [{v:=.iface 40 (.int .i64 c),recovered:=false}]) w fun e r w'=>
   e=.returned (.tuple #[])∧r=.panicking [{v:=.iface 40 (.int .i64 c),recovered:=true}]∧w'=(w.setRow Bx Dj.toArray).setCell ⟨b,0,none⟩ (.int .i64 c):=by
 have t:∀W:World,(Instr.typeAssert (.iface 40 (iV c)) 20 40 true).run Tryz.prog W=.ok (.tuple #[iV c,.bool true]) W:=fun _=>by kernel_rfl
 have c1:(w.setRow Bx Dj.toArray).cell? (aV b 0)=some v:=by
  simp only[World.cell?,World.setRow,yL,yq f]
  simp[i]
 have u:(w.setRow Bx Dj.toArray).frozen? (aV b 0)=false:=by
  simp only[World.frozen?,World.setRow,yL,yq f]
  simp[i]
 have p:=yb j
 have q:Hid ((Tryz.prog.info? 35).map (·.size)=some row.size):=yb (by rw[d];kernel_rfl)
 have g:Hid (∀v∈Dj,v.oneCell'=true):=yb (fun v m=>yW.1 (show Dj.all (fun v=>v.oneCell')=true from rfl) v m)
 clear j i
 refine callsDIn_of_wpSIn Tryz.func43 rfl trivial fun k cs l=>?_
 apply wpSIn_seq
 apply wpSIn_region
 simp[wpOpsSIn,go_sem,recoverD,l,Tryz.ntmps43,Exit.thenS]
 refine wpSIn_of_wpIn rfl ?_
 generalize s:bodyPostS Tryz.prog Tryz.f43 k cs _=Q
 generalize hcs:(_::cs:List Frame)=h
 simp only[zX,xK,xL,zD,zE,zR,yQ,yK,zK]
 refine qm.2 ?_
 go_upto_region 7 with fail
 refine wp_region_lit ?_
 iterate 2
  refine zB rfl fun K a=>?_
  go_simp
  refine a _ _ ?_
  clear a K
 refine ze rfl 35 _ _ rfl Bx Dj.toArray rfl rfl 35 row p.o (by kernel_rfl) d (zb g.o) ?_
 refine zB rfl fun K a=>?_
 go_simp
 refine a _ _ ?_
 clear a K
 refine wpList_nil ?_
 simp only[Exit.inBlock]
 show Q _ _ h _
 rw[<-s,<-hcs]
 exact ⟨rfl,_,rfl,_,zs rfl _ _ _,rfl,rfl,rfl⟩
theorem TQ(n:Nat)(f g:Addr)(w:World):
  CallsDIn Fence.wide n Tryz.prog 43 #[.pointer (some f),.pointer (some g)] .returning w fun e c w'=>e=.returned (.tuple #[])∧c=.returning∧w'=w:=by
 refine callsDIn_of_wpSIn Tryz.func43 rfl trivial fun a cs b=>?_
 apply wpSIn_seq
 apply wpSIn_region
 simp[wpOpsSIn,go_sem,recoverD,b,Tryz.ntmps43,Exit.thenS]
 refine wpSIn_of_wpIn rfl ?_
 generalize d:bodyPostS Tryz.prog Tryz.f43 a cs _=Q
 simp only[zX,xK,xL,zD,zE,zR,yQ,yK,zK]
 refine qm.2 ?_
 go_wp2
 change Q _ _ (a::cs) _
 rw[<-d]
 refine ⟨rfl,.returning,?_,_,zs rfl _ _ _,rfl,rfl,rfl⟩
 rw[<-b]
mutual
def KF:Ex->Int->Int
 |.mk _ _ _ _ _ args,most=>Mq args most 1
def Mq:List Ex->Int->Int->Int
 |[],_,n=>n
 |e::r,most,n=>if n < most then Mq r most (n+KF e (most - n)) else n
end
mutual
theorem IJ:∀(e:Ex) (most:Int),1<=KF e most∧KF e most<=max 1 most
 |.mk _ _ _ _ _ args,most=>by rw[KF];exact NT args most 1
theorem NT:∀(l:List Ex) (most n:Int),n<=Mq l most n∧Mq l most n<=max n most
 |[],most,n=>by rw[Mq];omega
 |e::r,most,n=>by
  rw[Mq]
  split
  ·have h1:=IJ e (most - n)
   have h2:=NT r most (n+KF e (most - n))
   omega
  ·omega
end
mutual
theorem Pl:∀(e:Ex) (most:Int),KF e most < most->(At e:Int)+1<=KF e most
 |.mk _ _ _ _ _ args,most,h=>by
  rw[KF] at h ⊢
  rw[At]
  have:=(LQ args most 1 (by omega) h).1
  omega
theorem LQ:∀(l:List Ex) (most n:Int),1<=n->Mq l most n < most->(AW l:Int)+n<=Mq l most n∧n+l.length<=Mq l most n
 |[],most,n,_,h=>by rw[Mq,AW];simp
 |e::r,most,n,hn,h=>by
  rw[Mq] at h ⊢
  split at h
  ·rename_i a
   rw[yw a]
   have h1:=IJ e (most - n)
   have h2:=NT r most (n+KF e (most - n))
   obtain ⟨h3,c⟩:=LQ r most (n+KF e (most - n)) (by omega) h
   have b:=Pl e (most - n) (by omega)
   rw[AW,yz]
   omega
  ·omega
end
mutual
theorem Pm:∀(e:Ex) (most:Int),most<=5001->KF e most < most->Dt e
 |.mk _ _ _ _ _ args,most,h0,h=>by
  rw[KF] at h
  rw[Dt]
  have:=(LQ args most 1 (by omega) h).2
  exact ⟨by omega,Pn args most 1 (by omega) h0 h⟩
theorem Pn:∀(l:List Ex) (most n:Int),1<=n->most<=5001->Mq l most n < most->EK l
 |[],most,n,_,_,h=>by rw[EK];trivial
 |e::r,most,n,hn,h0,h=>by
  rw[Mq] at h
  rw[EK]
  split at h
  ·rename_i a
   have h1:=IJ e (most - n)
   have h2:=NT r most (n+KF e (most - n))
   exact ⟨Pm e (most - n) (by omega) (by omega),Pn r most (n+KF e (most - n)) (by omega) h0 h⟩
  ·omega
end
theorem Ie{α:Type}{l:List α}{i:Nat}(h:i < l.length):l.drop i=l[i]::l.drop (i+1):=xb h
theorem UG:∀(e:Ex) {N:NP} {w:World} {cs:LV} {most:Int},AI N w e cs->(∀b,N b->b < w.heap.size)->1<=most->most<=5001->
  Calls Tryz.prog 40 #[.agg cs.toArray,.int .i64 most] w fun x w'=>x=.returned (.int .i64 (KF e most))∧Below w.heap.size w w':=by
 refine Jl fun op nn u rn ri args ih=>?_
 intro N w cs most h hN X W
 rw[AI] at h
 obtain ⟨a,cap,rfl,hl,hr,j⟩:=h
 have A:=yb j
 have K:=yb hN
 have Z:=yb ih
 have Q:KF (.mk op nn u rn ri args) most=Mq args most 1:=rfl
 rw[Q]
 generalize U:args.length=m at hl ⊢
 have P:=yb U
 generalize O:Mq args most 1=S
 have D:Hid (Mq (args.drop 0) most 1=S):=yb O
 clear j hN ih Q U O
 go_enter Tryz.func40,Tryz.ntmps40
 go_wp2
 have c:=yb ((yg w.heap.size w).alloc (yf _) (.cells #[iV op,iV nn,iV u,.string rn,iV ri,.slice a m cap] 26))
 have y:Hid ((w.alloc (.cells #[iV op,iV nn,iV u,.string rn,iV ri,.slice a m cap] 26)).cell? (aV w.heap.size 5)=some (.slice a m cap)):=yb (by
  have h:=World.alloc_heap_new w (.cells #[iV op,iV nn,iV u,.string rn,iV ri,.slice a m cap] 26)
  simp only[World.cell?,h];rfl)
 obtain ⟨r,k⟩:∃r,r=w.alloc (.cells #[iV op,iV nn,iV u,.string rn,iV ri,.slice a m cap] 26):=⟨_,rfl⟩
 rw[<-k] at c y ⊢
 have HZ:Hid (r.heap.size=w.heap.size+1):=yb (by rw[k];simp)
 clear k
 have B:=yb (yg r.heap.size r)
 go_loopw [5,6] (fun Y M wr=>∃(i:Nat) (n:Int),Y=iV n∧M=iV i∧i<=m∧1<=n∧n<=max 1 most∧Hid (Mq (args.drop i) most n=S)∧Hid (Below r.heap.size r wr)) (fun _ M _=>m - (intOf M).toNat)
 case atStart=>exact ⟨0,1,rfl,rfl,yI _,by omega,by omega,D,B⟩
 case round=>
  clear D B
  obtain ⟨i,n,rfl,rfl,hi,V,a6,G,t⟩:=hrel
  have a0:wr.cell? (aV w.heap.size 5)=some (.slice a m cap):=(t.o.cell (p:=(aV w.heap.size 5)) (by rw[HZ.o];exact xW _)).trans y.o
  by_cases F:i < m
  ·have g:i < args.length:=by rw[P.o];exact F
   have H:(i:Int) < (m:Int):=by omega
   by_cases z:n < most
   ·obtain ⟨b,o,cs,rfl,I,C,l⟩:=DX A.o i g
    have f:=c.o.trans (t.o.mono c.o.size)
    have d:=A0 C (f.block b (K.o b I))
    obtain ⟨a',T,rfl,_⟩:=l.cells
    rw[yy] at d
    obtain ⟨c0,c1,c2,c3,c4,c5⟩:=Br d
    have R:=yb (Z.o args[i] (yJ g) (w:=wr) (most:=most - n) (AI.same (fun b h=>h) (Ei K.o f) l) (fun b h=>yt (K.o b h) f.size) (by omega) (by omega))
    have E:Hid (Mq (args.drop (i+1)) most (n+KF args[i] (most - n))=S):=yb (by
     have h:=G.o
     rw[Ie g,Mq,yw z] at h
     exact h)
    have q:=IJ args[i] (most - n)
    generalize args[i]=x at*
    generalize KF x (most - n)=s at q R E
    have a7:1<=s:=q.1
    have a2:s<=most - n:=by omega
    clear l C d q f
    go_wp2_with (first|(go_at_call 40;refine R.o.mono ?_;rintro e w2 ⟨rfl,v⟩;have J:=yb (t.o.trans (v.mono t.o.size));clear v))
    exact ⟨⟨i+1,n+s,rfl,by go_num,by omega,by omega,by omega,E,J⟩,by simp[intOf];omega⟩
   ·have L:Hid (n=S):=yb (by
     have h:=G.o
     rw[Ie g,Mq,yq z] at h
     exact h)
    go_wp2
    go_ret
    exact ⟨Kt L.o,c.o.trans (t.o.mono c.o.size)⟩
  ·obtain rfl:i=m:=by omega
   have L:Hid (n=S):=yb (by
    have h:=G.o
    rw[<-P.o,zJ,Mq] at h
    exact h)
   have H:decide ((i:Int) < (i:Int))=false:=by simp
   go_wp2
   go_ret
   exact ⟨Kt L.o,c.o.trans (t.o.mono c.o.size)⟩
end Go.Proofs.YtjofgpfocadomaaGreatDoor
