/- Resolve: the deferred function that recovers. -/
import Derived.Test.YtbdfinegbjdblaaGreatDoorWq0
import Derived.Test.YtbdfinegbjdblaaGreatDoorWq3
import Derived.RecoverIn
set_option maxRecDepth 100000
set_option maxHeartbeats 4000000
set_option linter.unusedSimpArgs false
namespace Go.Proofs.YtbdfinegbjdblaaGreatDoor
open Go.RowKit Tryz
def Cq:LV:=[.string ⟨#[]⟩,.int .i64 0,.int .i64 0,.int .i64 0,.string ⟨#[]⟩,.int .i64 0,.slice none 0 0,.int .i64 0,.int .i64 0,.int .i64 0,.string ⟨#[]⟩,.int .i64 0,.slice none 0 0,.int .i64 0,.int .i64 0,.int .i64 0,.string ⟨#[]⟩,.int .i64 0,.slice none 0 0,.slice none 0 0,.slice none 0 0,.slice none 0 0,.slice none 0 0,.slice none 0 0,.slice none 0 0,.slice none 0 0]
theorem Nv(n Bx b:Nat)(d:Bx≠b)(c:Int)(row:Array Value)(v:Value)(w:World)(j:w.heap[Bx]?=some (.cells row 49 (0,0)))(f:row.size=26)(h:w.heap[b]?=some (.cells #[v] 34 (0,0))):
  CallsDIn Fence.wide n prog 72 #[.pointer (some ⟨Bx,0,none⟩),.pointer (some ⟨b,0,none⟩)] (.panicking [{v:=.iface 34 (.int .i64 c),recovered:=false}]) w λe k w'=>
   e=.returned (.tuple #[])/\k=.panicking [{v:=.iface 34 (.int .i64 c),recovered:=true}]/\w'=(w.setRow Bx Cq.toArray).setCell ⟨b,0,none⟩ (.int .i64 c):=by
 have m:∀W:World,(Instr.typeAssert (.iface 34 (iV c)) 20 34 true).run prog W=.ok (.tuple #[iV c,.bool true]) W:=λ_=>by kernel_rfl
 have c1:(w.setRow Bx Cq.toArray).cell? (aV b 0)=some v:=by
  simp only[World.cell?,World.setRow,yH,ym d]
  simp[h]
 have u:(w.setRow Bx Cq.toArray).frozen? (aV b 0)=false:=by
  simp only[World.frozen?,World.setRow,yH,ym d]
  simp[h]
 have l:=yb j
 have q:Hid ((prog.info? 49).map (·.size)=some row.size):=yb (by rw[f];kernel_rfl)
 have g:Hid (∀v∈Cq,v.oneCell'=true):=yb (λv s=>zj.1 (show Cq.all (λv=>v.oneCell')=true from rfl) v s)
 clear j h
 refine callsDIn_of_wpSIn func72 rfl trivial λr cs p=>?_
 apply wpSIn_seq
 apply wpSIn_region
 simp[wpOpsSIn,go_sem,recoverD,p,ntmps72,Exit.thenS]
 refine wpSIn_of_wpIn rfl ?_
 generalize t:bodyPostS prog Tryz.f72 r cs _=Q
 generalize i:(_::cs:List Frame)=cs'
 simp only[zT,zX,zY,zw,zx,zG,yS,yQ,zD]
 refine xV.2 ?_
 go_upto_region 7 with fail
 refine qt ?_
 iterate 2
  refine yZ rfl λK a=>?_
  go_simp
  refine a _ _ ?_
  clear a K
 refine yt rfl 49 _ _ rfl Bx Cq.toArray rfl rfl 49 row l.o (by kernel_rfl) f (yL g.o) ?_
 refine yZ rfl λK a=>?_
 go_simp
 refine a _ _ ?_
 clear a K
 refine qQ ?_
 simp only[Exit.inBlock]
 show Q _ _ cs' _
 rw[<-t,<-i]
 exact ⟨rfl,_,rfl,_,zr rfl _ _ _,rfl,rfl,rfl⟩
theorem VM(n:Nat)(d f:Addr)(w:World):
  CallsDIn Fence.wide n prog 72 #[.pointer (some d),.pointer (some f)] .returning w λe g w'=>e=.returned (.tuple #[])/\g=.returning/\w'=w:=by
 refine callsDIn_of_wpSIn func72 rfl trivial λa cs b=>?_
 apply wpSIn_seq
 apply wpSIn_region
 simp[wpOpsSIn,go_sem,recoverD,b,ntmps72,Exit.thenS]
 refine wpSIn_of_wpIn rfl ?_
 generalize c:bodyPostS prog Tryz.f72 a cs _=Q
 simp only[zT,zX,zY,zw,zx,zG,yS,yQ,zD]
 refine xV.2 ?_
 go_wp2
 change Q _ _ (a::cs) _
 rw[<-c]
 refine ⟨rfl,.returning,?_,_,zr rfl _ _ _,rfl,rfl,rfl⟩
 rw[<-b]
end Go.Proofs.YtbdfinegbjdblaaGreatDoor
