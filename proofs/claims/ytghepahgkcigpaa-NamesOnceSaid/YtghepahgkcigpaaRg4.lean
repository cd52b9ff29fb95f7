/- Parts of the proof, in short words: Qb Zf -/
import Derived.Test.YtghepahgkcigpaaRg0
import Derived.Test.YtghepahgkcigpaaRg3
import Derived.RecoverIn
import Derived.StillTailTactics
set_option maxRecDepth 100000
set_option maxHeartbeats 16000000
set_option linter.unusedSimpArgs false
namespace Go.Proofs.Ytghepahgkcigpaa
open Go.RowKit
def Bo:LV:=[.string ⟨#[]⟩,.int .i64 0,.int .i64 0,.int .i64 0,.string ⟨#[]⟩,.int .i64 0,.slice none 0 0,.int .i64 0,.int .i64 0,.int .i64 0,.string ⟨#[]⟩,.int .i64 0,.slice none 0 0,.int .i64 0,.int .i64 0,.int .i64 0,.string ⟨#[]⟩,.int .i64 0,.slice none 0 0,.slice none 0 0,.slice none 0 0,.slice none 0 0,.slice none 0 0,.slice none 0 0,.slice none 0 0,.slice none 0 0]
theorem KS(n Bx b:Nat)(d:Bx≠b)(c:Int)(row:Array Value)(v:Value)(w:World)(k:w.heap[Bx]?=some (.cells row 35 (0,0)))(g:row.size=26)(j:w.heap[b]?=some (.cells #[v] 38 (0,0))):
  CallsDIn Fence.wide n Try.prog 24 #[.pointer (some ⟨Bx,0,none⟩),.pointer (some ⟨b,0,none⟩)] (.panicking [{v:=.iface 38 (.int .i64 c),recovered:=false}]) w fun e s w'=>
   e=.returned (.tuple #[])∧s=.panicking [{v:=.iface 38 (.int .i64 c),recovered:=true}]∧w'=(w.setRow Bx Bo.toArray).setCell ⟨b,0,none⟩ (.int .i64 c):=by
 have q:∀W:World,(Instr.typeAssert (.iface 38 (iV c)) 20 38 true).run Try.prog W=.ok (.tuple #[iV c,.bool true]) W:=fun _=>by kernel_rfl
 have c1:(w.setRow Bx Bo.toArray).cell? (aV b 0)=some v:=by
  simp only[World.cell?,World.setRow,yO,yu d]
  simp[j]
 have x:(w.setRow Bx Bo.toArray).frozen? (aV b 0)=false:=by
  simp only[World.frozen?,World.setRow,yO,yu d]
  simp[j]
 have r:=yb k
 have t:Hid ((Try.prog.info? 35).map (·.size)=some row.size):=yb (by rw[g];kernel_rfl)
 have f:Hid (∀v∈Bo,v.oneCell'=true):=yb (fun v m=>yL.1 (show Bo.all (fun v=>v.oneCell')=true from rfl) v m)
 clear k j
 refine callsDIn_of_wpSIn Try.func24 rfl trivial fun l cs p=>?_
 apply wpSIn_seq
 apply wpSIn_region
 simp[wpOpsSIn,go_sem,recoverD,p,Try.ntmps24,Exit.thenS]
 refine wpSIn_of_wpIn rfl ?_
 generalize u:bodyPostS Try.prog Try.f24 l cs _=Q
 generalize h:(_::cs:List Frame)=i
 simp only[List.setIfInBounds_toArray,List.set_cons_zero,List.set_cons_succ,zJ,zK,zW,zj,z7,zQ]
 refine wpIn_wide.2 ?_
 go_upto_region 7 with fail
 refine xd ?_
 iterate 2
  refine yF rfl fun K a=>?_
  go_simp
  refine a _ _ ?_
  clear a K
 refine yX rfl 35 _ _ rfl Bx Bo.toArray rfl rfl 35 row r.o (by kernel_rfl) g (yU f.o) ?_
 refine yF rfl fun K a=>?_
 go_simp
 refine a _ _ ?_
 clear a K
 refine xB ?_
 simp only[Exit.inBlock]
 show Q _ _ i _
 rw[<-u,<-h]
 exact ⟨rfl,_,rfl,_,zf rfl _ _ _,rfl,rfl,rfl⟩
theorem Rh(n:Nat)(d p1:Addr)(w:World):
  CallsDIn Fence.wide n Try.prog 24 #[.pointer (some d),.pointer (some p1)] .returning w fun e f w'=>e=.returned (.tuple #[])∧f=.returning∧w'=w:=by
 refine callsDIn_of_wpSIn Try.func24 rfl trivial fun b cs a=>?_
 apply wpSIn_seq
 apply wpSIn_region
 simp[wpOpsSIn,go_sem,recoverD,a,Try.ntmps24,Exit.thenS]
 refine wpSIn_of_wpIn rfl ?_
 generalize c:bodyPostS Try.prog Try.f24 b cs _=Q
 simp only[List.setIfInBounds_toArray,List.set_cons_zero,List.set_cons_succ,zJ,zK,zW,zj,z7,zQ]
 refine wpIn_wide.2 ?_
 go_wp2
 change Q _ _ (b::cs) _
 rw[<-c]
 refine ⟨rfl,.returning,?_,_,zf rfl _ _ _,rfl,rfl,rfl⟩
 rw[<-a]
mutual
def SH:Ex->Ex->Bool
 |.mk op n u rn ri args,.mk op' n' u' rn' ri' args'=>decide (op=op')&&(decide (n=n')&&(decide (u=u')&&(decide (rn.toList=rn'.toList)&&(decide (ri=ri')&&(decide (args.length=args'.length)&&KM args args')))))
def KM:List Ex->List Ex->Bool
 |[],_=>true
 |_::_,[]=>true
 |e::r,e'::r'=>SH e e'&&KM r r'
end
theorem Gd{a b:ByteArray}(h:a.toList=b.toList):a=b:=by
 rw[zF,zF] at h
 cases a;cases b;simpa using h
mutual
theorem SI:∀a b:Ex,SH a b=true↔a=b
 |.mk op n u rn ri args,.mk op' n' u' rn' ri' args'=>by
  rw[SH]
  simp only[yt,yW]
  constructor
  ·rintro ⟨rfl,rfl,rfl,h4,rfl,h6,c⟩
   obtain rfl:=Gd h4
   obtain rfl:=(Iw args args' h6).1 c
   rfl
  ·intro h
   injection h with h1 h2 h3 h4 h5 h6
   subst h1 h2 h3 h4 h5 h6
   exact ⟨rfl,rfl,rfl,rfl,rfl,rfl,(Iw args args rfl).2 rfl⟩
theorem Iw:∀a b:List Ex,a.length=b.length->(KM a b=true↔a=b)
 |[],b,h=>by
  obtain rfl:b=[]:=z6.1 h.symm
  simp[KM]
 |e::r,[],h=>by simp at h
 |e::r,e'::r',h=>by
  rw[KM,yt,SI e e',Iw r r' (by simpa using h)]
  simp
end
theorem Mv:∀(e:Ex) {e':Ex} {N:NP} {w:World} {cs C:LV},AP N w e cs->AP N w e' C->(∀b,N b->b < w.heap.size)->
  Calls Try.prog 63 #[.agg cs.toArray,.agg C.toArray] w fun x w'=>x=.returned (.bool (SH e e'))∧Below w.heap.size w w':=by
 refine GK fun op j u rn ri args ih=>?_
 intro e' N w cs C h h' hN
 obtain ⟨n,v,Z,Y,l,c⟩:=e'
 rw[AP] at h h'
 obtain ⟨a,cap,rfl,hl,hr,I⟩:=h
 obtain ⟨Q,f,rfl,a6,ab,z⟩:=h'
 have a0:=yb I
 have J:=yb z
 have V:=yb hN
 have IH:=yb ih
 rw[SH]
 generalize hm:args.length=m at hl ⊢
 generalize R:c.length=m' at a6 ⊢
 have Hm:=yb hm
 have a8:=yb R
 generalize hq:KM args c=q
 have HQ:=yb hq
 clear I z hN ih hm R hq
 go_enter Try.func63,Try.ntmps63
 have d:=yb (((yg w.heap.size w).alloc (ye _) (.cells #[iV op,iV j,iV u,.string rn,iV ri,.slice a m cap] 26)).alloc (by simp) (.cells #[iV n,iV v,iV Z,.string Y,iV l,.slice Q m' f] 26))
 obtain h1|rfl:(op !=n)=true∨op=n:=by
  by_cases h:op=n
  ·exact .inr h
  ·exact .inl (by simpa using h)
 ·have g:decide (op=n)=false:=by simpa using h1
  simp only[g,xS]
  clear g
  go_wp2
  go_ret
  exact ⟨rfl,d.o⟩
 obtain h2|rfl:(j !=v)=true∨j=v:=by
  by_cases h:j=v
  ·exact .inr h
  ·exact .inl (by simpa using h)
 ·have g:decide (j=v)=false:=by simpa using h2
  simp only[g,xS,qf]
  clear g
  go_wp2
  go_ret
  exact ⟨rfl,d.o⟩
 obtain h3|rfl:(u !=Z)=true∨u=Z:=by
  by_cases h:u=Z
  ·exact .inr h
  ·exact .inl (by simpa using h)
 ·have g:decide (u=Z)=false:=by simpa using h3
  simp only[g,xS,qf]
  clear g
  go_wp2
  go_ret
  exact ⟨rfl,d.o⟩
 by_cases h4:rn.toList=Y.toList
 rotate_left
 ·simp only[h4,decide_false,xS,qf]
  go_wp2
  go_ret
  exact ⟨rfl,d.o⟩
 obtain rfl:=Gd h4
 clear h4
 obtain h5|rfl:(ri !=l)=true∨ri=l:=by
  by_cases h:ri=l
  ·exact .inr h
  ·exact .inl (by simpa using h)
 ·have g:decide (ri=l)=false:=by simpa using h5
  simp only[g,xS,qf]
  clear g
  go_wp2
  go_ret
  exact ⟨rfl,d.o⟩
 obtain h6|rfl:((m:Int) !=(m':Int))=true∨m=m':=by
  by_cases h:m=m'
  ·exact .inr h
  ·exact .inl (by simp only[qe,ne_eq];omega)
 ·have g:decide (m=m')=false:=by simp only[qe,ne_eq] at h6;simp only[xu];omega
  simp only[g,xS,qf]
  clear g
  go_wp2
  go_ret
  exact ⟨rfl,d.o⟩
 simp only[decide_true,qi]
 have ac:((m:Int) !=(m:Int))=false:=by simp
 go_wp2
 have a1:=yb (World.alloc_heap_new w (.cells #[iV op,iV j,iV u,.string rn,iV ri,.slice a m cap] 26))
 obtain ⟨D,B⟩:∃D,D=(w.alloc (.cells #[iV op,iV j,iV u,.string rn,iV ri,.slice a m cap] 26)).alloc (.cells #[iV op,iV j,iV u,.string rn,iV ri,.slice Q m f] 26):=⟨_,rfl⟩
 have E:Hid (D.cell? (aV w.heap.size 5)=some (.slice a m cap)∧D.cell? (aV (w.heap.size+1) 5)=some (.slice Q m f)∧D.heap.size=w.heap.size+2):=yb (by
  have h1:=World.alloc_heap_new w (.cells #[iV op,iV j,iV u,.string rn,iV ri,.slice a m cap] 26)
  have h2:=World.alloc_heap_new (w.alloc (.cells #[iV op,iV j,iV u,.string rn,iV ri,.slice a m cap] 26)) (.cells #[iV op,iV j,iV u,.string rn,iV ri,.slice Q m f] 26)
  have h3:=(((yg (w.heap.size+1) _).alloc (by simp) (.cells #[iV op,iV j,iV u,.string rn,iV ri,.slice Q m f] 26):Below (w.heap.size+1) (w.alloc (.cells #[iV op,iV j,iV u,.string rn,iV ri,.slice a m cap] 26)) _)).block w.heap.size (xF _)
  have g:(w.alloc (.cells #[iV op,iV j,iV u,.string rn,iV ri,.slice a m cap] 26)).heap.size=w.heap.size+1:=by simp
  rw[g] at h2
  rw[<-B] at h2 h3
  refine ⟨?_,?_,?_⟩
  ·simp only[World.cell?,h3,h1];rfl
  ·simp only[World.cell?,h2];rfl
  ·rw[B];simp)
 rw[<-B] at d ⊢
 clear B
 have U:=yb (yg D.heap.size D)
 have S:Hid (KM (args.drop 0) (c.drop 0)=q):=yb HQ.o
 go_loopw [5] (fun iv wr=>∃i:Nat,iv=iV i∧i<=m∧Hid (KM (args.drop i) (c.drop i)=q)∧Hid (Below D.heap.size D wr)) (fun iv _=>m - (intOf iv).toNat)
 case atStart=>exact ⟨0,rfl,yz _,S,U⟩
 case round=>
  clear U S a1
  obtain ⟨i,rfl,hi,HS,G⟩:=hrel
  have ad:wr.cell? (aV w.heap.size 5)=some (.slice a m cap):=(G.o.cell (p:=(aV w.heap.size 5)) (by have:=E.o.2.2;simp only;omega)).trans E.o.1
  have aa:wr.cell? (aV (w.heap.size+1) 5)=some (.slice Q m f):=(G.o.cell (p:=(aV (w.heap.size+1) 5)) (by have:=E.o.2.2;simp only;omega)).trans E.o.2.1
  by_cases W:i < m
  ·have L:i < args.length:=by rw[Hm.o];exact W
   have H:i < c.length:=by rw[a8.o];exact W
   have a2:(i:Int) < (m:Int):=by omega
   obtain ⟨b,o,cs,rfl,a7,X,P⟩:=DJ a0.o i L
   obtain ⟨b',o',C,rfl,T,F,t⟩:=DJ J.o i H
   have k:=d.o.trans (G.o.mono d.o.size)
   have K:=A2 X (k.block b (V.o b a7))
   have r:=A2 F (k.block b' (V.o b' T))
   rw[yA] at K r
   obtain ⟨ax,cx,rfl,_⟩:=P.cells
   obtain ⟨ay,cy,rfl,_⟩:=t.cells
   obtain ⟨c0,c1,c2,c3,c4,c5⟩:=Br K
   obtain ⟨d0,d1,d2,d3,d4,d5⟩:=Br r
   have HC:=yb (IH.o args[i] (yy L) (e':=c[i]) (w:=wr.drew) (AP.same (fun b h=>h) (Dc V.o k.drew) P) (AP.same (fun b h=>h) (Dc V.o k.drew) t) (fun b h=>yp (V.o b h) k.drew.size))
   have M:Hid ((SH args[i] c[i]&&KM (args.drop (i+1)) (c.drop (i+1)))=q):=yb (by
    have h:=HS.o
    rw[D5 L,D5 H,KM] at h
    exact h)
   generalize args[i]=x at*
   generalize c[i]=y at*
   generalize SH x y=s at HC M
   clear P t X F K r k
   go_upto_region 6 with fail
   go_still_tail 10,(by kernel_rfl)
   change wpList _ _ _ _ _ wr.drew
   cases s
   ·have HF:Hid (false=q):=yb M.o
    go_wp2_with (first|(go_at_call 63;refine HC.o.mono ?_;rintro e w2 ⟨rfl,A⟩;have O:=yb (G.o.drew.trans (A.mono G.o.drew.size));clear A))
    go_ret
    exact ⟨yH (fun b=>Ending.returned (Value.bool b)) HF.o,d.o.trans (O.o.mono d.o.size)⟩
   ·have HT:Hid (KM (args.drop (i+1)) (c.drop (i+1))=q):=yb M.o
    go_wp2_with (first|(go_at_call 63;refine HC.o.mono ?_;rintro e w2 ⟨rfl,A⟩;have O:=yb (G.o.drew.trans (A.mono G.o.drew.size));clear A))
    exact ⟨⟨i+1,by push_cast;rfl,by omega,HT,O⟩,by simp[intOf];omega⟩
  ·obtain rfl:i=m:=by omega
   have a2:decide ((i:Int) < (i:Int))=false:=by simp
   have HF:Hid (true=q):=yb (by
    have h:=HS.o
    rw[<-Hm.o,zk,KM] at h
    exact h)
   go_wp2
   go_ret
   exact ⟨yH (fun b=>Ending.returned (Value.bool b)) HF.o,d.o.trans (G.o.mono d.o.size)⟩
end Go.Proofs.Ytghepahgkcigpaa
