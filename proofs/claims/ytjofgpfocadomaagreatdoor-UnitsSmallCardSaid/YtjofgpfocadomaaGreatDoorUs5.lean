/- Parts of the proof, in short words: Qb Va -/
import Derived.Test.YtjofgpfocadomaaGreatDoorUs0
import Derived.Test.YtjofgpfocadomaaGreatDoorUs4
import Derived.RecoverIn
set_option maxRecDepth 100000
set_option maxHeartbeats 8000000
set_option linter.unusedSimpArgs false
namespace Go.Proofs.YtjofgpfocadomaaGreatDoor
open Go.RowKit
def D8:LV:=[.string ⟨#[]⟩,.int .i64 0,.int .i64 0,.int .i64 0,.string ⟨#[]⟩,.int .i64 0,.slice none 0 0,.int .i64 0,.int .i64 0,.int .i64 0,.string ⟨#[]⟩,.int .i64 0,.slice none 0 0,.int .i64 0,.int .i64 0,.int .i64 0,.string ⟨#[]⟩,.int .i64 0,.slice none 0 0,.slice none 0 0,.slice none 0 0,.slice none 0 0,.slice none 0 0,.slice none 0 0,.slice none 0 0,.slice none 0 0]
theorem Lx(n Bx b:Nat)(f:Bx≠b)(c:Int)(row:Array Value)(v:Value)(w:World)(k:w.heap[Bx]?=some (.cells row 35 (0,0)))(g:row.size=26)(i:w.heap[b]?=some (.cells #[v] 40 (0,0))):
  CallsDIn Fence.wide n Tryz.prog 43 #[.pointer (some ⟨Bx,0,none⟩),.pointer (some ⟨b,0,none⟩)] (.panicking [{v:=.iface 40 (.int .i64 c),recovered:=false}]) w fun e r w'=>
   e=.returned (.tuple #[])∧r=.panicking [{v:=.iface 40 (.int .i64 c),recovered:=true}]∧w'=(w.setRow Bx D8.toArray).setCell ⟨b,0,none⟩ (.int .i64 c):=by
 have p:∀W:World,(Instr.typeAssert (.iface 40 (iV c)) 20 40 true).run Tryz.prog W=.ok (.tuple #[iV c,.bool true]) W:=fun _=>by kernel_rfl
 have c1:(w.setRow Bx D8.toArray).cell? (aV b 0)=some v:=by
  simp only[World.cell?,World.setRow,yL,yq f]
  simp[i]
 have x:(w.setRow Bx D8.toArray).frozen? (aV b 0)=false:=by
  simp only[World.frozen?,World.setRow,yL,yq f]
  simp[i]
 have m:=yb k
 have t:Hid ((Tryz.prog.info? 35).map (·.size)=some row.size):=yb (by rw[g];kernel_rfl)
 have d:Hid (∀v∈D8,v.oneCell'=true):=yb (fun v u=>yU.1 (show D8.all (fun v=>v.oneCell')=true from rfl) v u)
 clear k i
 refine callsDIn_of_wpSIn Tryz.func43 rfl trivial fun q cs s=>?_
 apply wpSIn_seq
 apply wpSIn_region
 simp[wpOpsSIn,go_sem,recoverD,s,Tryz.ntmps43,Exit.thenS]
 refine wpSIn_of_wpIn rfl ?_
 generalize l:bodyPostS Tryz.prog Tryz.f43 q cs _=Q
 generalize j:(_::cs:List Frame)=h
 simp only[zS,xB,xD,zx,zy,zM,yP,yK,zG]
 refine xZ.2 ?_
 go_upto_region 7 with fail
 refine wp_region_lit ?_
 iterate 2
  refine zw rfl fun K a=>?_
  go_simp
  refine a _ _ ?_
  clear a K
 refine za rfl 35 _ _ rfl Bx D8.toArray rfl rfl 35 row m.o (by kernel_rfl) g (z6 d.o) ?_
 refine zw rfl fun K a=>?_
 go_simp
 refine a _ _ ?_
 clear a K
 refine wpList_nil ?_
 simp only[Exit.inBlock]
 show Q _ _ h _
 rw[<-l,<-j]
 exact ⟨rfl,_,rfl,_,zn rfl _ _ _,rfl,rfl,rfl⟩
theorem SK(n:Nat)(d g:Addr)(w:World):
  CallsDIn Fence.wide n Tryz.prog 43 #[.pointer (some d),.pointer (some g)] .returning w fun e f w'=>e=.returned (.tuple #[])∧f=.returning∧w'=w:=by
 refine callsDIn_of_wpSIn Tryz.func43 rfl trivial fun b cs a=>?_
 apply wpSIn_seq
 apply wpSIn_region
 simp[wpOpsSIn,go_sem,recoverD,a,Tryz.ntmps43,Exit.thenS]
 refine wpSIn_of_wpIn rfl ?_
 generalize c:bodyPostS Tryz.prog Tryz.f43 b cs _=Q
 simp only[zS,xB,xD,zx,zy,zM,yP,yK,zG]
 refine xZ.2 ?_
 go_wp2
 change Q _ _ (b::cs) _
 rw[<-c]
 refine ⟨rfl,.returning,?_,_,zn rfl _ _ _,rfl,rfl,rfl⟩
 rw[<-a]
mutual
def K4:Ex->Int->Int
 |.mk _ _ _ _ _ args,most=>LN args most 1
def LN:List Ex->Int->Int->Int
 |[],_,n=>n
 |e::r,most,n=>if n < most then LN r most (n+K4 e (most - n)) else n
end
mutual
theorem Ik:∀(e:Ex) (most:Int),1<=K4 e most∧K4 e most<=max 1 most
 |.mk _ _ _ _ _ args,most=>by rw[K4];exact N9 args most 1
theorem N9:∀(l:List Ex) (most n:Int),n<=LN l most n∧LN l most n<=max n most
 |[],most,n=>by rw[LN];omega
 |e::r,most,n=>by
  rw[LN]
  split
  ·have h1:=Ik e (most - n)
   have h2:=N9 r most (n+K4 e (most - n))
   omega
  ·omega
end
mutual
theorem OB:∀(e:Ex) (most:Int),K4 e most < most->(AB e:Int)+1<=K4 e most
 |.mk _ _ _ _ _ args,most,h=>by
  rw[K4] at h ⊢
  rw[AB]
  have:=(Lg args most 1 (by omega) h).1
  omega
theorem Lg:∀(l:List Ex) (most n:Int),1<=n->LN l most n < most->(AX l:Int)+n<=LN l most n∧n+l.length<=LN l most n
 |[],most,n,_,h=>by rw[LN,AX];simp
 |e::r,most,n,hn,h=>by
  rw[LN] at h ⊢
  split at h
  ·rename_i a
   rw[yD a]
   have h1:=Ik e (most - n)
   have h2:=N9 r most (n+K4 e (most - n))
   obtain ⟨h3,c⟩:=Lg r most (n+K4 e (most - n)) (by omega) h
   have b:=OB e (most - n) (by omega)
   rw[AX,yv]
   omega
  ·omega
end
mutual
theorem OC:∀(e:Ex) (most:Int),most<=5001->K4 e most < most->FU e
 |.mk _ _ _ _ _ args,most,h0,h=>by
  rw[K4] at h
  rw[FU]
  have:=(Lg args most 1 (by omega) h).2
  exact ⟨by omega,OD args most 1 (by omega) h0 h⟩
theorem OD:∀(l:List Ex) (most n:Int),1<=n->most<=5001->LN l most n < most->GP l
 |[],most,n,_,_,h=>by rw[GP];trivial
 |e::r,most,n,hn,h0,h=>by
  rw[LN] at h
  rw[GP]
  split at h
  ·rename_i a
   have h1:=Ik e (most - n)
   have h2:=N9 r most (n+K4 e (most - n))
   exact ⟨OC e (most - n) (by omega) (by omega),OD r most (n+K4 e (most - n)) (by omega) h0 h⟩
  ·omega
end
theorem Hq{α:Type}{l:List α}{i:Nat}(h:i < l.length):l.drop i=l[i]::l.drop (i+1):=zW h
theorem TC:∀(e:Ex) {N:NP} {w:World} {cs:LV} {most:Int},AH N w e cs->(∀b,N b->b < w.heap.size)->1<=most->most<=5001->
  Calls Tryz.prog 40 #[.agg cs.toArray,.int .i64 most] w fun x w'=>x=.returned (.int .i64 (K4 e most))∧Below w.heap.size w w':=by
 refine IQ fun op nn u rn ri args ih=>?_
 intro N w cs most h hN X a6
 rw[AH] at h
 obtain ⟨a,cap,rfl,hl,hr,j⟩:=h
 have D:=yb j
 have K:=yb hN
 have Y:=yb ih
 have R:K4 (.mk op nn u rn ri args) most=LN args most 1:=rfl
 rw[R]
 generalize Q:args.length=m at hl ⊢
 have U:=yb Q
 generalize P:LN args most 1=S
 have A:Hid (LN (args.drop 0) most 1=S):=yb P
 clear j hN ih R Q P
 go_enter Tryz.func40,Tryz.ntmps40
 go_wp2
 have c:=yb ((yg w.heap.size w).alloc (yf _) (.cells #[iV op,iV nn,iV u,.string rn,iV ri,.slice a m cap] 26))
 have z:Hid ((w.alloc (.cells #[iV op,iV nn,iV u,.string rn,iV ri,.slice a m cap] 26)).cell? (aV w.heap.size 5)=some (.slice a m cap)):=yb (by
  have h:=World.alloc_heap_new w (.cells #[iV op,iV nn,iV u,.string rn,iV ri,.slice a m cap] 26)
  simp only[World.cell?,h];rfl)
 obtain ⟨l,q⟩:∃l,l=w.alloc (.cells #[iV op,iV nn,iV u,.string rn,iV ri,.slice a m cap] 26):=⟨_,rfl⟩
 rw[<-q] at c z ⊢
 have HZ:Hid (l.heap.size=w.heap.size+1):=yb (by rw[q];simp)
 clear q
 have v:=yb (yg l.heap.size l)
 go_loopw [5,6] (fun Z I wr=>∃(i:Nat) (n:Int),Z=iV n∧I=iV i∧i<=m∧1<=n∧n<=max 1 most∧Hid (LN (args.drop i) most n=S)∧Hid (Below l.heap.size l wr)) (fun _ I _=>m - (intOf I).toNat)
 case atStart=>exact ⟨0,1,rfl,rfl,yH _,by omega,by omega,A,v⟩
 case round=>
  clear A v
  obtain ⟨i,n,rfl,rfl,hi,V,W,F,t⟩:=hrel
  have a7:wr.cell? (aV w.heap.size 5)=some (.slice a m cap):=(t.o.cell (p:=(aV w.heap.size 5)) (by rw[HZ.o];exact xN _)).trans z.o
  by_cases H:i < m
  ·have f:i < args.length:=by rw[U.o];exact H
   have G:(i:Int) < (m:Int):=by omega
   by_cases C:n < most
   ·obtain ⟨b,o,cs,rfl,J,E,k⟩:=Dr D.o i f
    have g:=c.o.trans (t.o.mono c.o.size)
    have d:=A0 E (g.block b (K.o b J))
    obtain ⟨a',O,rfl,_⟩:=k.cells
    rw[yw] at d
    obtain ⟨c0,c1,c2,c3,c4,c5⟩:=Bn d
    have T:=yb (Y.o args[i] (yJ f) (w:=wr) (most:=most - n) (AH.same (fun b h=>h) (Ea K.o g) k) (fun b h=>yu (K.o b h) g.size) (by omega) (by omega))
    have y:Hid (LN (args.drop (i+1)) most (n+K4 args[i] (most - n))=S):=yb (by
     have h:=F.o
     rw[Hq f,LN,yD C] at h
     exact h)
    have r:=Ik args[i] (most - n)
    generalize args[i]=x at*
    generalize K4 x (most - n)=s at r T y
    have a0:1<=s:=r.1
    have a2:s<=most - n:=by omega
    clear k E d r g
    go_wp2_with (first|(go_at_call 40;refine T.o.mono ?_;rintro e w2 ⟨rfl,B⟩;have L:=yb (t.o.trans (B.mono t.o.size));clear B))
    exact ⟨⟨i+1,n+s,rfl,by go_num,by omega,by omega,by omega,y,L⟩,by simp[intOf];omega⟩
   ·have M:Hid (n=S):=yb (by
     have h:=F.o
     rw[Hq f,LN,yq C] at h
     exact h)
    go_wp2
    go_ret
    exact ⟨Io M.o,c.o.trans (t.o.mono c.o.size)⟩
  ·obtain rfl:i=m:=by omega
   have M:Hid (n=S):=yb (by
    have h:=F.o
    rw[<-U.o,zF,LN] at h
    exact h)
   have G:decide ((i:Int) < (i:Int))=false:=by simp
   go_wp2
   go_ret
   exact ⟨Io M.o,c.o.trans (t.o.mono c.o.size)⟩
end Go.Proofs.YtjofgpfocadomaaGreatDoor
