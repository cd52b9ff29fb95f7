/- The reference's expr (printed by gen_ye.py). -/
import Derived.Test.YtghepahgkcigpaaRn0
import Derived.Test.YtghepahgkcigpaaRn7
set_option linter.unusedSimpArgs false
namespace Go.Proofs.Ytghepahgkcigpaa
open Go.RowKit
structure Xz (w w1:World) (op nn u:Int) (rn:ByteArray) (ri:Int) (v:Value):Prop where
 below:Below w.heap.size w w1
 size:w1.heap.size=w.heap.size+2
 box:w1.heap[w.heap.size]?=some (.cells [.int .i64 op,.int .i64 nn,.int .i64 u,.string rn,.int .i64 ri,v].toArray 26 (0,0))
 res:w1.heap[w.heap.size+1]?=some (.cells [.int .i64 0,.int .i64 0,.int .i64 0,.string {data:=#[]},.int .i64 0,.slice none 0 0].toArray 26 (0,0))
theorem WV{w w1:World}{op a u:Int}{rn:ByteArray}{ri:Int}{v:Value}(h:w1=(w.alloc (.cells #[.int .i64 op,.int .i64 a,.int .i64 u,.string rn,.int .i64 ri,v] 26)).alloc (.cells #[.int .i64 0,.int .i64 0,.int .i64 0,.string {data:=#[]},.int .i64 0,.slice none 0 0] 26)):Xz w w1 op a u rn ri v:=by
 subst h
 refine ⟨((yg _ _).alloc (yf _) _).alloc (by simp) _,by simp,?_,?_⟩
 ·rw[yF _ _ _ (by simp)];exact World.alloc_heap_new _ _
 ·have:=World.alloc_heap_new (w.alloc (.cells #[iV op,iV a,iV u,.string rn,iV ri,v] 26)) (.cells jb 26)
  simpa using this
theorem Sp{W:World}{b:Nat}{x0 d a e c f:Value}{t:TypeId}{fr:Nat × Nat}(h:W.heap[b]?=some (.cells [x0,d,a,e,c,f].toArray t fr)):
  W.cell? ⟨b,0,none⟩=some x0∧W.cell? ⟨b,1,none⟩=some d∧W.cell? ⟨b,2,none⟩=some a∧W.cell? ⟨b,3,none⟩=some e∧W.cell? ⟨b,4,none⟩=some c∧W.cell? ⟨b,5,none⟩=some f:=by
 simp[World.cell?,h]
theorem Au.drew{V W:World}{b:Nat}{c:LV}{t:TypeId}(h:Au V W b c t):Au V W.drew b c t:=⟨h.os,h.tape,h.output,h.size,h.row,h.block⟩
theorem AS.ri'{N:NP}{w:World}{op n u ri b:Int}{rn:ByteArray}{args:List Ex}{a:Option Addr}{m cap:Nat}(h:AS N w (.mk op n u rn ri args) [.int .i64 op,.int .i64 n,.int .i64 u,.string rn,.int .i64 ri,.slice a m cap]):
  AS N w (.mk op n u rn b args) [.int .i64 op,.int .i64 n,.int .i64 u,.string rn,.int .i64 b,.slice a m cap]:=by
 rw[AS] at h ⊢
 obtain ⟨e,c,d,h1,h2,h3⟩:=h
 simp only[xC,xf,xW,and_true] at d
 obtain ⟨rfl,rfl,rfl⟩:=d
 exact ⟨_,_,rfl,h1,h2,h3⟩
end Go.Proofs.Ytghepahgkcigpaa
