/- Parts of the proof, in short words: Qb Zf -/
import Derived.Test.YtghepahgkcigpaaRf0
import Derived.Test.YtghepahgkcigpaaRf3
import Derived.RecoverIn
import Derived.StillTailTactics
set_option maxRecDepth 100000
set_option maxHeartbeats 16000000
set_option linter.unusedSimpArgs false
namespace Go.Proofs.Ytghepahgkcigpaa
open Go.RowKit
def Bt:LV:=[.string ⟨#[]⟩,.int .i64 0,.int .i64 0,.int .i64 0,.string ⟨#[]⟩,.int .i64 0,.slice none 0 0,.int .i64 0,.int .i64 0,.int .i64 0,.string ⟨#[]⟩,.int .i64 0,.slice none 0 0,.int .i64 0,.int .i64 0,.int .i64 0,.string ⟨#[]⟩,.int .i64 0,.slice none 0 0,.slice none 0 0,.slice none 0 0,.slice none 0 0,.slice none 0 0,.slice none 0 0,.slice none 0 0,.slice none 0 0]
theorem Lk(n Bx b:Nat)(d:Bx≠b)(c:Int)(row:Array Value)(v:Value)(w:World)(k:w.heap[Bx]?=some (.cells row 35 (0,0)))(g:row.size=26)(j:w.heap[b]?=some (.cells #[v] 38 (0,0))):
  CallsDIn Fence.wide n Try.prog 24 #[.pointer (some ⟨Bx,0,none⟩),.pointer (some ⟨b,0,none⟩)] (.panicking [{v:=.iface 38 (.int .i64 c),recovered:=false}]) w fun e s w'=>
   e=.returned (.tuple #[])∧s=.panicking [{v:=.iface 38 (.int .i64 c),recovered:=true}]∧w'=(w.setRow Bx Bt.toArray).setCell ⟨b,0,none⟩ (.int .i64 c):=by
 have q:∀W:World,(Instr.typeAssert (.iface 38 (iV c)) 20 38 true).run Try.prog W=.ok (.tuple #[iV c,.bool true]) W:=fun _=>by kernel_rfl
 have c1:(w.setRow Bx Bt.toArray).cell? (aV b 0)=some v:=by
  simp only[World.cell?,World.setRow,yO,yu d]
  simp[j]
 have x:(w.setRow Bx Bt.toArray).frozen? (aV b 0)=false:=by
  simp only[World.frozen?,World.setRow,yO,yu d]
  simp[j]
 have r:=yb k
 have t:Hid ((Try.prog.info? 35).map (·.size)=some row.size):=yb (by rw[g];kernel_rfl)
 have f:Hid (∀v∈Bt,v.oneCell'=true):=yb (fun v m=>yL.1 (show Bt.all (fun v=>v.oneCell')=true from rfl) v m)
 clear k j
 refine callsDIn_of_wpSIn Try.func24 rfl trivial fun l cs p=>?_
 apply wpSIn_seq
 apply wpSIn_region
 simp[wpOpsSIn,go_sem,recoverD,p,Try.ntmps24,Exit.thenS]
 refine wpSIn_of_wpIn rfl ?_
 generalize u:bodyPostS Try.prog Try.f24 l cs _=Q
 generalize h:(_::cs:List Frame)=i
 simp only[List.setIfInBounds_toArray,List.set_cons_zero,List.set_cons_succ,zJ,zK,zW,zj,z7,zQ]
 refine wpIn_wide.2 ?_
 go_upto_region 7 with fail
 refine xd ?_
 iterate 2
  refine yF rfl fun K a=>?_
  go_simp
  refine a _ _ ?_
  clear a K
 refine yX rfl 35 _ _ rfl Bx Bt.toArray rfl rfl 35 row r.o (by kernel_rfl) g (yU f.o) ?_
 refine yF rfl fun K a=>?_
 go_simp
 refine a _ _ ?_
 clear a K
 refine xB ?_
 simp only[Exit.inBlock]
 show Q _ _ i _
 rw[<-u,<-h]
 exact ⟨rfl,_,rfl,_,zf rfl _ _ _,rfl,rfl,rfl⟩
theorem RH(n:Nat)(d p1:Addr)(w:World):
  CallsDIn Fence.wide n Try.prog 24 #[.pointer (some d),.pointer (some p1)] .returning w fun e f w'=>e=.returned (.tuple #[])∧f=.returning∧w'=w:=by
 refine callsDIn_of_wpSIn Try.func24 rfl trivial fun b cs a=>?_
 apply wpSIn_seq
 apply wpSIn_region
 simp[wpOpsSIn,go_sem,recoverD,a,Try.ntmps24,Exit.thenS]
 refine wpSIn_of_wpIn rfl ?_
 generalize c:bodyPostS Try.prog Try.f24 b cs _=Q
 simp only[List.setIfInBounds_toArray,List.set_cons_zero,List.set_cons_succ,zJ,zK,zW,zj,z7,zQ]
 refine wpIn_wide.2 ?_
 go_wp2
 change Q _ _ (b::cs) _
 rw[<-c]
 refine ⟨rfl,.returning,?_,_,zf rfl _ _ _,rfl,rfl,rfl⟩
 rw[<-a]
end Go.Proofs.Ytghepahgkcigpaa
