/- Parts of the proof, in short words: Qb Zf -/
import Derived.Test.YtghepahgkcigpaaRn0
import Derived.Test.YtghepahgkcigpaaRn3
import Derived.RecoverIn
import Derived.StillTailTactics
set_option maxRecDepth 100000
set_option maxHeartbeats 16000000
set_option linter.unusedSimpArgs false
namespace Go.Proofs.Ytghepahgkcigpaa
open Go.RowKit
def A5:LV:=[.string ⟨#[]⟩,.int .i64 0,.int .i64 0,.int .i64 0,.string ⟨#[]⟩,.int .i64 0,.slice none 0 0,.int .i64 0,.int .i64 0,.int .i64 0,.string ⟨#[]⟩,.int .i64 0,.slice none 0 0,.int .i64 0,.int .i64 0,.int .i64 0,.string ⟨#[]⟩,.int .i64 0,.slice none 0 0,.slice none 0 0,.slice none 0 0,.slice none 0 0,.slice none 0 0,.slice none 0 0,.slice none 0 0,.slice none 0 0]
theorem Mp(n Bx b:Nat)(d:Bx≠b)(c:Int)(row:Array Value)(v:Value)(w:World)(k:w.heap[Bx]?=some (.cells row 35 (0,0)))(g:row.size=26)(j:w.heap[b]?=some (.cells #[v] 38 (0,0))):
  CallsDIn Fence.wide n Try.prog 24 #[.pointer (some ⟨Bx,0,none⟩),.pointer (some ⟨b,0,none⟩)] (.panicking [{v:=.iface 38 (.int .i64 c),recovered:=false}]) w fun e s w'=>
   e=.returned (.tuple #[])∧s=.panicking [{v:=.iface 38 (.int .i64 c),recovered:=true}]∧w'=(w.setRow Bx A5.toArray).setCell ⟨b,0,none⟩ (.int .i64 c):=by
 have m:∀W:World,(Instr.typeAssert (.iface 38 (iV c)) 20 38 true).run Try.prog W=.ok (.tuple #[iV c,.bool true]) W:=fun _=>by kernel_rfl
 have c1:(w.setRow Bx A5.toArray).cell? (aV b 0)=some v:=by
  simp only[World.cell?,World.setRow,yR,yu d]
  simp[j]
 have x:(w.setRow Bx A5.toArray).frozen? (aV b 0)=false:=by
  simp only[World.frozen?,World.setRow,yR,yu d]
  simp[j]
 have r:=yb k
 have u:Hid ((Try.prog.info? 35).map (·.size)=some row.size):=yb (by rw[g];kernel_rfl)
 have f:Hid (∀v∈A5,v.oneCell'=true):=yb (fun v l=>yO.1 (show A5.all (fun v=>v.oneCell')=true from rfl) v l)
 clear k j
 refine callsDIn_of_wpSIn Try.func24 rfl trivial fun p cs t=>?_
 apply wpSIn_seq
 apply wpSIn_region
 simp[wpOpsSIn,go_sem,recoverD,t,Try.ntmps24,Exit.thenS]
 refine wpSIn_of_wpIn rfl ?_
 generalize q:bodyPostS Try.prog Try.f24 p cs _=Q
 generalize h:(_::cs:List Frame)=i
 simp only[List.setIfInBounds_toArray,List.set_cons_zero,List.set_cons_succ,zO,zP,xe,zk,z8,zU]
 refine wpIn_wide.2 ?_
 go_upto_region 7 with fail
 refine xi ?_
 iterate 2
  refine yG rfl fun K a=>?_
  go_simp
  refine a _ _ ?_
  clear a K
 refine yZ rfl 35 _ _ rfl Bx A5.toArray rfl rfl 35 row r.o (by kernel_rfl) g (yV f.o) ?_
 refine yG rfl fun K a=>?_
 go_simp
 refine a _ _ ?_
 clear a K
 refine xG ?_
 simp only[Exit.inBlock]
 show Q _ _ i _
 rw[<-q,<-h]
 exact ⟨rfl,_,rfl,_,zx rfl _ _ _,rfl,rfl,rfl⟩
theorem TK(n:Nat)(f p1:Addr)(w:World):
  CallsDIn Fence.wide n Try.prog 24 #[.pointer (some f),.pointer (some p1)] .returning w fun e d w'=>e=.returned (.tuple #[])∧d=.returning∧w'=w:=by
 refine callsDIn_of_wpSIn Try.func24 rfl trivial fun a cs b=>?_
 apply wpSIn_seq
 apply wpSIn_region
 simp[wpOpsSIn,go_sem,recoverD,b,Try.ntmps24,Exit.thenS]
 refine wpSIn_of_wpIn rfl ?_
 generalize c:bodyPostS Try.prog Try.f24 a cs _=Q
 simp only[List.setIfInBounds_toArray,List.set_cons_zero,List.set_cons_succ,zO,zP,xe,zk,z8,zU]
 refine wpIn_wide.2 ?_
 go_wp2
 change Q _ _ (a::cs) _
 rw[<-c]
 refine ⟨rfl,.returning,?_,_,zx rfl _ _ _,rfl,rfl,rfl⟩
 rw[<-b]
mutual
def VB:Ex->Ex->Bool
 |.mk op n u rn ri args,.mk op' n' u' rn' ri' args'=>decide (op=op')&&(decide (n=n')&&(decide (u=u')&&(decide (rn.toList=rn'.toList)&&(decide (ri=ri')&&(decide (args.length=args'.length)&&Mj args args')))))
def Mj:List Ex->List Ex->Bool
 |[],_=>true
 |_::_,[]=>true
 |e::r,e'::r'=>VB e e'&&Mj r r'
end
theorem Ha{a b:ByteArray}(h:a.toList=b.toList):a=b:=by
 rw[zL,zL] at h
 cases a;cases b;simpa using h
mutual
theorem VC:∀a b:Ex,VB a b=true↔a=b
 |.mk op n u rn ri args,.mk op' n' u' rn' ri' args'=>by
  rw[VB]
  simp only[yv,yW]
  constructor
  ·rintro ⟨rfl,rfl,rfl,h4,rfl,h6,c⟩
   obtain rfl:=Ha h4
   obtain rfl:=(JS args args' h6).1 c
   rfl
  ·intro h
   injection h with h1 h2 h3 h4 h5 h6
   subst h1 h2 h3 h4 h5 h6
   exact ⟨rfl,rfl,rfl,rfl,rfl,rfl,(JS args args rfl).2 rfl⟩
theorem JS:∀a b:List Ex,a.length=b.length->(Mj a b=true↔a=b)
 |[],b,h=>by
  obtain rfl:b=[]:=ze.1 h.symm
  simp[Mj]
 |e::r,[],h=>by simp at h
 |e::r,e'::r',h=>by
  rw[Mj,yv,VC e e',JS r r' (by simpa using h)]
  simp
end
theorem Oa:∀(e:Ex) {e':Ex} {N:NP} {w:World} {cs B:LV},AS N w e cs->AS N w e' B->(∀b,N b->b < w.heap.size)->
  Calls Try.prog 63 #[.agg cs.toArray,.agg B.toArray] w fun x w'=>x=.returned (.bool (VB e e'))∧Below w.heap.size w w':=by
 refine Ib fun op j u rn ri args ih=>?_
 intro e' N w cs B h h' hN
 obtain ⟨A,t,T,Y,n,c⟩:=e'
 rw[AS] at h h'
 obtain ⟨a,cap,rfl,hl,hr,I⟩:=h
 obtain ⟨Q,f,rfl,a7,af,l⟩:=h'
 have Z:=yb I
 have O:=yb l
 have S:=yb hN
 have IH:=yb ih
 rw[VB]
 generalize hm:args.length=m at hl ⊢
 generalize a1:c.length=X at a7 ⊢
 have Hm:=yb hm
 have a8:=yb a1
 generalize hq:Mj args c=q
 have HQ:=yb hq
 clear I l hN ih hm a1 hq
 go_enter Try.func63,Try.ntmps63
 have d:=yb (((yg w.heap.size w).alloc (yf _) (.cells #[iV op,iV j,iV u,.string rn,iV ri,.slice a m cap] 26)).alloc (by simp) (.cells #[iV A,iV t,iV T,.string Y,iV n,.slice Q X f] 26))
 obtain h1|rfl:(op !=A)=true∨op=A:=by
  by_cases h:op=A
  ·exact .inr h
  ·exact .inl (by simpa using h)
 ·have g:decide (op=A)=false:=by simpa using h1
  simp only[g,qb]
  clear g
  go_wp2
  go_ret
  exact ⟨rfl,d.o⟩
 obtain h2|rfl:(j !=t)=true∨j=t:=by
  by_cases h:j=t
  ·exact .inr h
  ·exact .inl (by simpa using h)
 ·have g:decide (j=t)=false:=by simpa using h2
  simp only[g,qb,qp]
  clear g
  go_wp2
  go_ret
  exact ⟨rfl,d.o⟩
 obtain h3|rfl:(u !=T)=true∨u=T:=by
  by_cases h:u=T
  ·exact .inr h
  ·exact .inl (by simpa using h)
 ·have g:decide (u=T)=false:=by simpa using h3
  simp only[g,qb,qp]
  clear g
  go_wp2
  go_ret
  exact ⟨rfl,d.o⟩
 by_cases h4:rn.toList=Y.toList
 rotate_left
 ·simp only[h4,decide_false,qb,qp]
  go_wp2
  go_ret
  exact ⟨rfl,d.o⟩
 obtain rfl:=Ha h4
 clear h4
 obtain h5|rfl:(ri !=n)=true∨ri=n:=by
  by_cases h:ri=n
  ·exact .inr h
  ·exact .inl (by simpa using h)
 ·have g:decide (ri=n)=false:=by simpa using h5
  simp only[g,qb,qp]
  clear g
  go_wp2
  go_ret
  exact ⟨rfl,d.o⟩
 obtain h6|rfl:((m:Int) !=(X:Int))=true∨m=X:=by
  by_cases h:m=X
  ·exact .inr h
  ·exact .inl (by simp only[qo,ne_eq];omega)
 ·have g:decide (m=X)=false:=by simp only[qo,ne_eq] at h6;simp only[xz];omega
  simp only[g,qb,qp]
  clear g
  go_wp2
  go_ret
  exact ⟨rfl,d.o⟩
 simp only[decide_true,xP]
 have ae:((m:Int) !=(m:Int))=false:=by simp
 go_wp2
 have aa:=yb (World.alloc_heap_new w (.cells #[iV op,iV j,iV u,.string rn,iV ri,.slice a m cap] 26))
 obtain ⟨D,E⟩:∃D,D=(w.alloc (.cells #[iV op,iV j,iV u,.string rn,iV ri,.slice a m cap] 26)).alloc (.cells #[iV op,iV j,iV u,.string rn,iV ri,.slice Q m f] 26):=⟨_,rfl⟩
 have C:Hid (D.cell? (aV w.heap.size 5)=some (.slice a m cap)∧D.cell? (aV (w.heap.size+1) 5)=some (.slice Q m f)∧D.heap.size=w.heap.size+2):=yb (by
  have h1:=World.alloc_heap_new w (.cells #[iV op,iV j,iV u,.string rn,iV ri,.slice a m cap] 26)
  have h2:=World.alloc_heap_new (w.alloc (.cells #[iV op,iV j,iV u,.string rn,iV ri,.slice a m cap] 26)) (.cells #[iV op,iV j,iV u,.string rn,iV ri,.slice Q m f] 26)
  have h3:=(((yg (w.heap.size+1) _).alloc (by simp) (.cells #[iV op,iV j,iV u,.string rn,iV ri,.slice Q m f] 26):Below (w.heap.size+1) (w.alloc (.cells #[iV op,iV j,iV u,.string rn,iV ri,.slice a m cap] 26)) _)).block w.heap.size (xK _)
  have g:(w.alloc (.cells #[iV op,iV j,iV u,.string rn,iV ri,.slice a m cap] 26)).heap.size=w.heap.size+1:=by simp
  rw[g] at h2
  rw[<-E] at h2 h3
  refine ⟨?_,?_,?_⟩
  ·simp only[World.cell?,h3,h1];rfl
  ·simp only[World.cell?,h2];rfl
  ·rw[E];simp)
 rw[<-E] at d ⊢
 clear E
 have R:=yb (yg D.heap.size D)
 have a0:Hid (Mj (args.drop 0) (c.drop 0)=q):=yb HQ.o
 go_loopw [5] (fun iv wr=>∃i:Nat,iv=iV i∧i<=m∧Hid (Mj (args.drop i) (c.drop i)=q)∧Hid (Below D.heap.size D wr)) (fun iv _=>m - (intOf iv).toNat)
 case atStart=>exact ⟨0,rfl,yC _,a0,R⟩
 case round=>
  clear R a0 aa
  obtain ⟨i,rfl,hi,HS,H⟩:=hrel
  have ad:wr.cell? (aV w.heap.size 5)=some (.slice a m cap):=(H.o.cell (p:=(aV w.heap.size 5)) (by have:=C.o.2.2;simp only;omega)).trans C.o.1
  have ac:wr.cell? (aV (w.heap.size+1) 5)=some (.slice Q m f):=(H.o.cell (p:=(aV (w.heap.size+1) 5)) (by have:=C.o.2.2;simp only;omega)).trans C.o.2.1
  by_cases U:i < m
  ·have L:i < args.length:=by rw[Hm.o];exact U
   have G:i < c.length:=by rw[a8.o];exact U
   have a6:(i:Int) < (m:Int):=by omega
   obtain ⟨b,o,cs,rfl,a2,V,P⟩:=Em Z.o i L
   obtain ⟨b',o',B,rfl,W,F,r⟩:=Em O.o i G
   have k:=d.o.trans (H.o.mono d.o.size)
   have M:=A2 V (k.block b (S.o b a2))
   have z:=A2 F (k.block b' (S.o b' W))
   rw[yB] at M z
   obtain ⟨ax,cx,rfl,_⟩:=P.cells
   obtain ⟨ay,cy,rfl,_⟩:=r.cells
   obtain ⟨c0,c1,c2,c3,c4,c5⟩:=BJ M
   obtain ⟨d0,d1,d2,d3,d4,d5⟩:=BJ z
   have HC:=yb (IH.o args[i] (yz L) (e':=c[i]) (w:=wr.drew) (AS.same (fun b h=>h) (DL S.o k.drew) P) (AS.same (fun b h=>h) (DL S.o k.drew) r) (fun b h=>yr (S.o b h) k.drew.size))
   have K:Hid ((VB args[i] c[i]&&Mj (args.drop (i+1)) (c.drop (i+1)))=q):=yb (by
    have h:=HS.o
    rw[DC L,DC G,Mj] at h
    exact h)
   generalize args[i]=x at*
   generalize c[i]=y at*
   generalize VB x y=s at HC K
   clear P r V F M z k
   go_upto_region 6 with fail
   go_still_tail 10,(by kernel_rfl)
   change wpList _ _ _ _ _ wr.drew
   cases s
   ·have HF:Hid (false=q):=yb K.o
    go_wp2_with (first|(go_at_call 63;refine HC.o.mono ?_;rintro e w2 ⟨rfl,v⟩;have J:=yb (H.o.drew.trans (v.mono H.o.drew.size));clear v))
    go_ret
    exact ⟨yJ (fun b=>Ending.returned (Value.bool b)) HF.o,d.o.trans (J.o.mono d.o.size)⟩
   ·have HT:Hid (Mj (args.drop (i+1)) (c.drop (i+1))=q):=yb K.o
    go_wp2_with (first|(go_at_call 63;refine HC.o.mono ?_;rintro e w2 ⟨rfl,v⟩;have J:=yb (H.o.drew.trans (v.mono H.o.drew.size));clear v))
    exact ⟨⟨i+1,by push_cast;rfl,by omega,HT,J⟩,by simp[intOf];omega⟩
  ·obtain rfl:i=m:=by omega
   have a6:decide ((i:Int) < (i:Int))=false:=by simp
   have HF:Hid (true=q):=yb (by
    have h:=HS.o
    rw[<-Hm.o,zo,Mj] at h
    exact h)
   go_wp2
   go_ret
   exact ⟨yJ (fun b=>Ending.returned (Value.bool b)) HF.o,d.o.trans (H.o.mono d.o.size)⟩
end Go.Proofs.Ytghepahgkcigpaa
