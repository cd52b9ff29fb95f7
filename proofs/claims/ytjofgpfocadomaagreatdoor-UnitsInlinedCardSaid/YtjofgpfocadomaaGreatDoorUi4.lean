/- Parts of the proof, in short words: Qb Va -/
import Derived.Test.YtjofgpfocadomaaGreatDoorUi0
import Derived.Test.YtjofgpfocadomaaGreatDoorUi3
import Derived.RecoverIn
set_option maxRecDepth 100000
set_option maxHeartbeats 8000000
set_option linter.unusedSimpArgs false
namespace Go.Proofs.YtjofgpfocadomaaGreatDoor
open Go.RowKit
def Da:LV:=[.string ⟨#[]⟩,.int .i64 0,.int .i64 0,.int .i64 0,.string ⟨#[]⟩,.int .i64 0,.slice none 0 0,.int .i64 0,.int .i64 0,.int .i64 0,.string ⟨#[]⟩,.int .i64 0,.slice none 0 0,.int .i64 0,.int .i64 0,.int .i64 0,.string ⟨#[]⟩,.int .i64 0,.slice none 0 0,.slice none 0 0,.slice none 0 0,.slice none 0 0,.slice none 0 0,.slice none 0 0,.slice none 0 0,.slice none 0 0]
theorem LL(n Bx b:Nat)(f:Bx≠b)(c:Int)(row:Array Value)(v:Value)(w:World)(k:w.heap[Bx]?=some (.cells row 35 (0,0)))(g:row.size=26)(h:w.heap[b]?=some (.cells #[v] 40 (0,0))):
  CallsDIn Fence.wide n Tryz.prog 43 #[.pointer (some ⟨Bx,0,none⟩),.pointer (some ⟨b,0,none⟩)] (.panicking [{v:=.iface 40 (.int .i64 c),recovered:=false}]) w fun e s w'=>
   e=.returned (.tuple #[])∧s=.panicking [{v:=.iface 40 (.int .i64 c),recovered:=true}]∧w'=(w.setRow Bx Da.toArray).setCell ⟨b,0,none⟩ (.int .i64 c):=by
 have t:∀W:World,(Instr.typeAssert (.iface 40 (iV c)) 20 40 true).run Tryz.prog W=.ok (.tuple #[iV c,.bool true]) W:=fun _=>by kernel_rfl
 have c1:(w.setRow Bx Da.toArray).cell? (aV b 0)=some v:=by
  simp only[World.cell?,World.setRow,yN,yt f]
  simp[h]
 have x:(w.setRow Bx Da.toArray).frozen? (aV b 0)=false:=by
  simp only[World.frozen?,World.setRow,yN,yt f]
  simp[h]
 have u:=yb k
 have r:Hid ((Tryz.prog.info? 35).map (·.size)=some row.size):=yb (by rw[g];kernel_rfl)
 have d:Hid (∀v∈Da,v.oneCell'=true):=yb (fun v p=>yR.1 (show Da.all (fun v=>v.oneCell')=true from rfl) v p)
 clear k h
 refine callsDIn_of_wpSIn Tryz.func43 rfl trivial fun m cs q=>?_
 apply wpSIn_seq
 apply wpSIn_region
 simp[wpOpsSIn,go_sem,recoverD,q,Tryz.ntmps43,Exit.thenS]
 refine wpSIn_of_wpIn rfl ?_
 generalize l:bodyPostS Tryz.prog Tryz.f43 m cs _=Q
 generalize i:(_::cs:List Frame)=j
 simp only[zZ,xF,xG,zy,zA,zQ,yS,yP,zJ]
 refine qc.2 ?_
 go_upto_region 7 with fail
 refine wp_region_lit ?_
 iterate 2
  refine zx rfl fun K a=>?_
  go_simp
  refine a _ _ ?_
  clear a K
 refine zb rfl 35 _ _ rfl Bx Da.toArray rfl rfl 35 row u.o (by kernel_rfl) g (yB d.o) ?_
 refine zx rfl fun K a=>?_
 go_simp
 refine a _ _ ?_
 clear a K
 refine wpList_nil ?_
 simp only[Exit.inBlock]
 show Q _ _ j _
 rw[<-l,<-i]
 exact ⟨rfl,_,rfl,_,zq rfl _ _ _,rfl,rfl,rfl⟩
theorem T4(n:Nat)(d f:Addr)(w:World):
  CallsDIn Fence.wide n Tryz.prog 43 #[.pointer (some d),.pointer (some f)] .returning w fun e g w'=>e=.returned (.tuple #[])∧g=.returning∧w'=w:=by
 refine callsDIn_of_wpSIn Tryz.func43 rfl trivial fun a cs b=>?_
 apply wpSIn_seq
 apply wpSIn_region
 simp[wpOpsSIn,go_sem,recoverD,b,Tryz.ntmps43,Exit.thenS]
 refine wpSIn_of_wpIn rfl ?_
 generalize c:bodyPostS Tryz.prog Tryz.f43 a cs _=Q
 simp only[zZ,xF,xG,zy,zA,zQ,yS,yP,zJ]
 refine qc.2 ?_
 go_wp2
 change Q _ _ (a::cs) _
 rw[<-c]
 refine ⟨rfl,.returning,?_,_,zq rfl _ _ _,rfl,rfl,rfl⟩
 rw[<-b]
mutual
def Kk:Ex->Int->Int
 |.mk _ _ _ _ _ args,most=>M0 args most 1
def M0:List Ex->Int->Int->Int
 |[],_,n=>n
 |e::r,most,n=>if n < most then M0 r most (n+Kk e (most - n)) else n
end
mutual
theorem Ix:∀(e:Ex) (most:Int),1<=Kk e most∧Kk e most<=max 1 most
 |.mk _ _ _ _ _ args,most=>by rw[Kk];exact Nr args most 1
theorem Nr:∀(l:List Ex) (most n:Int),n<=M0 l most n∧M0 l most n<=max n most
 |[],most,n=>by rw[M0];omega
 |e::r,most,n=>by
  rw[M0]
  split
  ·have h1:=Ix e (most - n)
   have h2:=Nr r most (n+Kk e (most - n))
   omega
  ·omega
end
mutual
theorem OZ:∀(e:Ex) (most:Int),Kk e most < most->(Ar e:Int)+1<=Kk e most
 |.mk _ _ _ _ _ args,most,h=>by
  rw[Kk] at h ⊢
  rw[Ar]
  have:=(Lt args most 1 (by omega) h).1
  omega
theorem Lt:∀(l:List Ex) (most n:Int),1<=n->M0 l most n < most->(AN l:Int)+n<=M0 l most n∧n+l.length<=M0 l most n
 |[],most,n,_,h=>by rw[M0,AN];simp
 |e::r,most,n,hn,h=>by
  rw[M0] at h ⊢
  split at h
  ·rename_i a
   rw[yw a]
   have h1:=Ix e (most - n)
   have h2:=Nr r most (n+Kk e (most - n))
   obtain ⟨h3,b⟩:=Lt r most (n+Kk e (most - n)) (by omega) h
   have h5:=OZ e (most - n) (by omega)
   rw[AN,yx]
   omega
  ·omega
end
mutual
theorem P0:∀(e:Ex) (most:Int),most<=5001->Kk e most < most->FZ e
 |.mk _ _ _ _ _ args,most,h0,h=>by
  rw[Kk] at h
  rw[FZ]
  have:=(Lt args most 1 (by omega) h).2
  exact ⟨by omega,P1 args most 1 (by omega) h0 h⟩
theorem P1:∀(l:List Ex) (most n:Int),1<=n->most<=5001->M0 l most n < most->GZ l
 |[],most,n,_,_,h=>by rw[GZ];trivial
 |e::r,most,n,hn,h0,h=>by
  rw[M0] at h
  rw[GZ]
  split at h
  ·rename_i a
   have h1:=Ix e (most - n)
   have h2:=Nr r most (n+Kk e (most - n))
   exact ⟨P0 e (most - n) (by omega) (by omega),P1 r most (n+Kk e (most - n)) (by omega) h0 h⟩
  ·omega
end
theorem Hz{α:Type}{l:List α}{i:Nat}(h:i < l.length):l.drop i=l[i]::l.drop (i+1):=xg h
theorem TS:∀(e:Ex) {N:NP} {w:World} {cs:LV} {most:Int},AG N w e cs->(∀b,N b->b < w.heap.size)->1<=most->most<=5001->
  Calls Tryz.prog 40 #[.agg cs.toArray,.int .i64 most] w fun x w'=>x=.returned (.int .i64 (Kk e most))∧Below w.heap.size w w':=by
 refine J3 fun op nn u rn ri args ih=>?_
 intro N w cs most h hN a0 a2
 rw[AG] at h
 obtain ⟨a,cap,rfl,W,hr,j⟩:=h
 have A:=yb j
 have M:=yb hN
 have V:=yb ih
 have Q:Kk (.mk op nn u rn ri args) most=M0 args most 1:=rfl
 rw[Q]
 generalize O:args.length=m at W ⊢
 have R:=yb O
 generalize U:M0 args most 1=S
 have y:Hid (M0 (args.drop 0) most 1=S):=yb U
 clear j hN ih Q O U
 go_enter Tryz.func40,Tryz.ntmps40
 go_wp2
 have c:=yb ((yg w.heap.size w).alloc (yf _) (.cells #[iV op,iV nn,iV u,.string rn,iV ri,.slice a m cap] 26))
 have C:Hid ((w.alloc (.cells #[iV op,iV nn,iV u,.string rn,iV ri,.slice a m cap] 26)).cell? (aV w.heap.size 5)=some (.slice a m cap)):=yb (by
  have h:=World.alloc_heap_new w (.cells #[iV op,iV nn,iV u,.string rn,iV ri,.slice a m cap] 26)
  simp only[World.cell?,h];rfl)
 obtain ⟨q,l⟩:∃q,q=w.alloc (.cells #[iV op,iV nn,iV u,.string rn,iV ri,.slice a m cap] 26):=⟨_,rfl⟩
 rw[<-l] at c C ⊢
 have Z:Hid (q.heap.size=w.heap.size+1):=yb (by rw[l];simp)
 clear l
 have E:=yb (yg q.heap.size q)
 go_loopw [5,6] (fun nv G wr=>∃(i:Nat) (n:Int),nv=iV n∧G=iV i∧i<=m∧1<=n∧n<=max 1 most∧Hid (M0 (args.drop i) most n=S)∧Hid (Below q.heap.size q wr)) (fun _ G _=>m - (intOf G).toNat)
 case atStart=>exact ⟨0,1,rfl,rfl,yK _,by omega,by omega,y,E⟩
 case round=>
  clear y E
  obtain ⟨i,n,rfl,rfl,hi,Y,a8,H,t⟩:=hrel
  have a7:wr.cell? (aV w.heap.size 5)=some (.slice a m cap):=(t.o.cell (p:=(aV w.heap.size 5)) (by rw[Z.o];exact xQ _)).trans C.o
  by_cases K:i < m
  ·have f:i < args.length:=by rw[R.o];exact K
   have I:(i:Int) < (m:Int):=by omega
   by_cases B:n < most
   ·obtain ⟨b,o,cs,rfl,J,z,k⟩:=Du A.o i f
    have g:=c.o.trans (t.o.mono c.o.size)
    have d:=A0 z (g.block b (M.o b J))
    obtain ⟨a',T,rfl,_⟩:=k.cells
    rw[yy] at d
    obtain ⟨c0,c1,c2,c3,c4,c5⟩:=Bp d
    have P:=yb (V.o args[i] (yM f) (w:=wr) (most:=most - n) (AG.same (fun b h=>h) (Ek M.o g) k) (fun b h=>yv (M.o b h) g.size) (by omega) (by omega))
    have D:Hid (M0 (args.drop (i+1)) most (n+Kk args[i] (most - n))=S):=yb (by
     have h:=H.o
     rw[Hz f,M0,yw B] at h
     exact h)
    have r:=Ix args[i] (most - n)
    generalize args[i]=x at*
    generalize Kk x (most - n)=s at r P D
    have X:1<=s:=r.1
    have a6:s<=most - n:=by omega
    clear k z d r g
    go_wp2_with (first|(go_at_call 40;refine P.o.mono ?_;rintro e w2 ⟨rfl,v⟩;have L:=yb (t.o.trans (v.mono t.o.size));clear v))
    exact ⟨⟨i+1,n+s,rfl,by go_num,by omega,by omega,by omega,D,L⟩,by simp[intOf];omega⟩
   ·have F:Hid (n=S):=yb (by
     have h:=H.o
     rw[Hz f,M0,yt B] at h
     exact h)
    go_wp2
    go_ret
    exact ⟨Iz F.o,c.o.trans (t.o.mono c.o.size)⟩
  ·obtain rfl:i=m:=by omega
   have F:Hid (n=S):=yb (by
    have h:=H.o
    rw[<-R.o,zI,M0] at h
    exact h)
   have I:decide ((i:Int) < (i:Int))=false:=by simp
   go_wp2
   go_ret
   exact ⟨Iz F.o,c.o.trans (t.o.mono c.o.size)⟩
end Go.Proofs.YtjofgpfocadomaaGreatDoor
