/- units.of: operations. -/
import Derived.Test.YtjofgpfocadomaaGreatDoorUc0
import Derived.Test.YtjofgpfocadomaaGreatDoorUc10
import Derived.Test.YtjofgpfocadomaaGreatDoorUc9
import Derived.Deep.RegionHeld2
set_option maxRecDepth 100000
set_option maxHeartbeats 8000000
set_option linter.unusedSimpArgs false
namespace Go.Proofs.YtjofgpfocadomaaGreatDoor
open Go.RowKit
set_option linter.unusedSimpArgs false
structure Kk (w:World) (op:Int) (q:Qn) (G H:Nat) (x y:Qn) (W:World):Prop where
 below:Below w.heap.size w W
 op:W.cell? ⟨w.heap.size,0,none⟩=some (.int .i64 op)
 q:W.heap[w.heap.size+1]?=some (.cells q.row.toArray 70 (0,0))
 x:W.heap[G]?=some (.cells x.row.toArray 70 (0,0))
 y:W.heap[H]?=some (.cells y.row.toArray 70 (0,0))
 g:w.heap.size+1 < G
 h:w.heap.size+1 < H
theorem Kk.up{w:World}{op:Int}{q:Qn}{G H:Nat}{x y:Qn}{W W':World}(k:Kk w op q G H x y W)(a:Below W.heap.size W W'):Kk w op q G H x y W':=by
 have h1:=(yd.1 k.x).1
 have h2:=(yd.1 k.y).1
 have h3:=(yd.1 k.q).1
 exact ⟨k.below.trans (a.mono (by omega)),(a.cell (p:=(aV w.heap.size 0)) (by show w.heap.size < _;omega)).trans k.op,(a.block _ (by omega)).trans k.q,(a.block _ (by omega)).trans k.x,(a.block _ (by omega)).trans k.y,k.g,k.h⟩
theorem Kk.set{w:World}{op:Int}{q q':Qn}{G H:Nat}{x y:Qn}{W W':World}(k:Kk w op q G H x y W)(a:D3 W W' (w.heap.size+1) q'.row 70):Kk w op q' G H x y W':=by
 refine ⟨a.below k.below (by omega),?_,a.row,(a.block _ (by have:=k.g;omega)).trans k.x,(a.block _ (by have:=k.h;omega)).trans k.y,k.g,k.h⟩
 have:=k.op
 unfold World.cell? at this ⊢
 rw[a.block _ (by show w.heap.size≠_;omega)];exact this
theorem Kk.drew{w:World}{op:Int}{q:Qn}{G H:Nat}{x y:Qn}{W:World}(k:Kk w op q G H x y W):Kk w op q G H x y W.drew:=⟨k.below.drew,k.op,k.q,k.x,k.y,k.g,k.h⟩
structure Xx (op:Int) (D B C:Nat) (W W':World):Prop where
 below:Below W.heap.size W W'
 row:W'.heap[D]?=some (.cells #[NF B C op,OV op] 167 (0,0))
 b:W'.cell? ⟨B,0,none⟩=some (.int .i64 1)
 c:W'.cell? ⟨C,0,none⟩=some (.int .i64 (-1))
 d:W.heap.size<=D
theorem I7(B C:Nat)(w:World):(Instr.index 168 (.agg (E3 B C).toArray) (.int .i64 3)).run Tryz.prog w=.ok (.agg #[.func (.func 94) #[] #[],.func (.func 95) #[] #[]]) w∧(Instr.index 168 (.agg (E3 B C).toArray) (.int .i64 4)).run Tryz.prog w=.ok (.agg #[.func (.func 94) #[] #[],.func (.func 96) #[] #[]]) w∧(Instr.index 168 (.agg (E3 B C).toArray) (.int .i64 5)).run Tryz.prog w=.ok (.agg #[.func (.func 103) #[] #[.pointer (some ⟨B,0,none⟩)],.func (.func 15) #[] #[]]) w∧(Instr.index 168 (.agg (E3 B C).toArray) (.int .i64 6)).run Tryz.prog w=.ok (.agg #[.func (.func 103) #[] #[.pointer (some ⟨C,0,none⟩)],.func (.func 98) #[] #[]]) w:=by
 refine ⟨?_,?_,?_,?_⟩<;>rfl
theorem AR(W:World){b c o a:Nat}(v:Value)(h:b≠c):(W.setCell ⟨c,o,none⟩ v).cell? ⟨b,a,none⟩=W.cell? ⟨b,a,none⟩:=by
 unfold World.cell?
 rw[show (W.setCell (aV c o) v).heap[b]?=W.heap[b]? from xM W (aV c o) v b h]
theorem J5{op:Int}{W a:World}{B C:Nat}{x y:Value}(h:Below W.heap.size W a)(hb:a.cell? ⟨B,0,none⟩=some (.int .i64 1)∧a.cell? ⟨C,0,none⟩=some (.int .i64 (-1)))(d:x=NF B C op)(c:y=OV op):Xx op a.heap.size B C W (a.alloc (.cells #[x,y] 167)):=by
 subst d c
 have b:=(yg a.heap.size a).alloc (yf _) (.cells #[NF B C op,OV op] 167)
 exact ⟨h.alloc h.size _,World.alloc_heap_new _ _,(b.cell (p:=(aV B 0)) (yP _ _ hb.1)).trans hb.1,(b.cell (p:=(aV C 0)) (yP _ _ hb.2)).trans hb.2,h.size⟩
theorem I8{op:Int}{W a:World}{B C:Nat}{x y:Value}(h:Below W.heap.size W a)(hr:a.heap[W.heap.size]?=some (.cells #[.nilFunc,.nilFunc] 167 (0,0)))(hb:a.cell? ⟨B,0,none⟩=some (.int .i64 1)∧a.cell? ⟨C,0,none⟩=some (.int .i64 (-1)))(c:x=NF B C op)(b:y=OV op):
  Xx op W.heap.size B C W ((a.setCell ⟨W.heap.size,0,none⟩ x).setCell ⟨W.heap.size,1,none⟩ y):=by
 subst c b
 have h0:=(DG hr).1
 have n1:B≠W.heap.size:=fun e=>by rw[e] at hb;rw[h0] at hb;cases hb.1
 have n2:C≠W.heap.size:=fun e=>by rw[e] at hb;rw[h0] at hb;cases hb.2
 refine ⟨A5 (A5 h (yf _) _) (yf _) _,Dw (Dl hr),?_,?_,yf _⟩
 ·rw[AR _ _ n1,AR _ _ n1];exact hb.1
 ·rw[AR _ _ n2,AR _ _ n2];exact hb.2
theorem Vs{op:Int}(h3:3<=op)(c:op<=6)(a b:Rt):∃id:FuncId,OV op=.func (.func id) #[] #[]∧(∀args W,(callFunc id args).run Tryz.prog W=.ok (.enter id args) W)∧∀W,Calls Tryz.prog id #[a.v,b.v] W (Wj op a b W):=by
 obtain rfl|rfl|rfl|rfl:op=3∨op=4∨op=5∨op=6:=by omega
 ·exact ⟨95,rfl,fun _ _=>rfl,fun W=>(Lo a b W).1⟩
 ·exact ⟨96,rfl,fun _ _=>rfl,fun W=>(Lo a b W).2.1⟩
 ·exact ⟨15,rfl,fun _ _=>rfl,fun W=>(Lo a b W).2.2.1⟩
 ·exact ⟨98,rfl,fun _ _=>rfl,fun W=>(Lo a b W).2.2.2⟩
theorem Vt{op:Int}(h3:3<=op)(d:op<=6)(a b:Dm)(c:Fv a=true)(hb:Fv b=true)(B C:Nat):
  (NF B C op=.func (.func 94) #[] #[]∧∀W,Calls Tryz.prog 94 #[a.v,b.v] W fun e w'=>e=.returned (.tuple #[(I5 op a b).1.v,.bool (I5 op a b).2])∧Below W.heap.size W w')∨
  ∃X,NF B C op=.func (.func 103) #[] #[.pointer (some ⟨X,0,none⟩)]∧∀W,W.cell? ⟨B,0,none⟩=some (.int .i64 1)->W.cell? ⟨C,0,none⟩=some (.int .i64 (-1))->Calls Tryz.prog 103 #[a.v,b.v,.pointer (some ⟨X,0,none⟩)] W fun e w'=>e=.returned (.tuple #[(I5 op a b).1.v,.bool (I5 op a b).2])∧Below W.heap.size W w':=by
 obtain rfl|rfl|rfl|rfl:op=3∨op=4∨op=5∨op=6:=by omega
 ·exact .inl ⟨rfl,fun W=>Lq a b W⟩
 ·exact .inl ⟨rfl,fun W=>Lq a b W⟩
 ·exact .inr ⟨B,rfl,fun W h1 _=>OU 5 1 (.inl ⟨rfl,rfl⟩) a b c hb B W h1⟩
 ·exact .inr ⟨C,rfl,fun W _ h2=>OU 6 (-1) (.inr ⟨rfl,rfl⟩) a b c hb C W h2⟩
theorem Vu(f:List Kn)(h:Aw)(l:Nat)(hl:l<=8)(IH:∀e cs W,GU W->PT W h f->AI (fun b=>b < W.heap.size) W e cs->Calls Tryz.prog 38 #[h.v,.agg cs.toArray,.int .i64 l] W (OW (F0 f l e) W))(hD:∀e,Fv (F0 f l e).1.dim=true)
 (op:Int)(rn:ByteArray)(a:Option Addr)(cap:Nat)(x y:Ex)(w:World)(hg:GU w)(hk:PT w h f)(h3:3<=op)(h6:op<=6)(hz:CH rn 0=true)(hr:Df (fun b=>b < w.heap.size) w a 0 [x,y]):
  Calls Tryz.prog 38 #[h.v,.agg #[.int .i64 op,.int .i64 0,.int .i64 0,.string rn,.int .i64 0,.slice a 2 cap],.int .i64 ((l:Int)+1)] w (OW (SB op (F0 f l x) (F0 f l y)) w):=by
 have HW:=yb (O6.new w [iV op,iV 0,iV 0,.string rn,iV 0,.slice a 2 cap])
 have hq:=Lr rn 0
 have co:Tryz.prog.eqGuardType Tryz.prog.depth 23=false:=by kernel_rfl
 have p1:(op==1)=false:=by simp<;>omega
 have p2:(op==2)=false:=by simp<;>omega
 have p3:decide (op < 3)=false:=by simp<;>omega
 have p4:decide (6 < op)=false:=by simp<;>omega
 have p5:((l:Int)+1==0)=false:=by simp<;>omega
 have p6:wrap64 ((l:Int)+1 - 1)=(l:Int):=by rw[AH (by omega)];omega
 have p7:wrap64 (l:Int)=(l:Int):=AH (by omega)
 have HG:=yb hg
 have HK:=yb hk
 have ai:=yb (And.intro h3 h6)
 have cr:=DX hr 0 (by simp)
 have cg:=DX hr 1 (by simp)
 obtain ⟨b,o,cx,rfl,bo,ar,ao⟩:=cr
 obtain ⟨b',o',cy,b0,bt,aq,ak⟩:=cg
 injection b0 with b0;injection b0 with e1 e2 e3;subst e1;subst e2
 simp only[qu,yy,Nat.zero_mul,qo,List.getElem_cons_zero,List.getElem_cons_succ] at ar ao aq ak
 obtain ⟨ax,bg,rfl,cu,c8,ab⟩:=ao.cells
 obtain ⟨ay,be,rfl,ce,bz,aa⟩:=ak.cells
 have HX:Hid (∀W,Below w.heap.size w W->Calls Tryz.prog 38 #[h.v,.agg #[iV x.op,iV x.n,iV x.u,.string x.rn,iV x.ri,.slice ax x.args.length bg],iV l] W (OW (F0 f l x) W)):=yb (fun W hW=>IH x _ W (hg.up hW) (hk.up hW) (ao.same (fun b hb=>yt hb hW.size) (fun b hb=>hW.block b hb)))
 have HY:Hid (∀W,Below w.heap.size w W->Calls Tryz.prog 38 #[h.v,.agg #[iV y.op,iV y.n,iV y.u,.string y.rn,iV y.ri,.slice ay y.args.length be],iV l] W (OW (F0 f l y) W)):=yb (fun W hW=>IH y _ W (hg.up hW) (hk.up hW) (ak.same (fun b hb=>yt hb hW.size) (fun b hb=>hW.block b hb)))
 have bi:=yb ar
 have bb:=yb aq
 have au:=yb bo
 have hdx:=hD x
 have bm:=hD y
 generalize F0 f l x=qx at*
 generalize F0 f l y=qy at*
 obtain ⟨⟨⟨xl,xh,xa⟩,⟨t,z⟩,U⟩,xo⟩:=qx
 obtain ⟨⟨⟨yl,yh,ya⟩,⟨F,E⟩,Z⟩,yo⟩:=qy
 have ch:=yb hdx
 have cn:=yb bm
 obtain ⟨res,i⟩:∃res,res=SB op (⟨⟨xl,xh,xa⟩,⟨t,z⟩,U⟩,xo) (⟨⟨yl,yh,ya⟩,⟨F,E⟩,Z⟩,yo):=⟨_,rfl⟩
 rw[<-i]
 have T:=yb i
 unfold OW Qn.val at HX HY
 dsimp only at HX HY
 clear i hdx bm ar aq ao ak hg hk IH hD hr cu c8 ab ce bz aa h3 h6 bo bt hl e3
 obtain ⟨ha,hn,hc⟩:=h
 unfold Aw.v at*
 dsimp only at*
 go_enter Tryz.func38,Tryz.ntmps38
 refine Ab fun K hK=>?_
 go_wp2
 refine hK.o _ _ ?_
 clear hK
 generalize (w.alloc (.cells #[iV op,iV 0,iV 0,.string rn,iV 0,.slice (some (aV b o)) 2 cap] 26)).alloc (.cells jg 70)=W at HW ⊢
 obtain ⟨x0,x1,x2,x3,x4,x5⟩:=Cg HW.o.x
 refine Ab fun K hK=>?_
 go_wp2
 refine hK.o _ _ ?_
 clear hK K p1 p2 p3 p4 p5 hq co hz x1 x2 x3 x4
 refine Ab fun K hK=>?_
 have ac:=yb HW.o.below
 have cp:=Br (A0 bi.o (ac.o.block b au.o))
 obtain ⟨a0,a1,a2,a3,a4,a5⟩:=cp
 go_wp2_with (first|(go_at_call 38;with_reducible refine (HX.o _ ac.o).mono ?_;rintro e w2 ⟨rfl,bd⟩;have aw:=yb bd;clear bd))
 refine hK.o _ _ ?_
 clear hK K a0 a1 a2 a3 a4 a5 x0 x5
 have ba:=World.alloc_heap_new w2 (.cells #[iV xl,iV xh,iV xa,iV t,iV z,iV U] 70)
 have aj:=yb ba
 have ah:=yb ((HW.o.up aw.o).up ((yg _ w2).alloc (yf _) (.cells #[iV xl,iV xh,iV xa,iV t,iV z,iV U] 70)))
 have b7:Hid (w.heap.size+1 < w2.heap.size):=yb (HW.o.up aw.o).lt
 clear ba HW ac aw
 generalize w2.alloc (.cells #[iV xl,iV xh,iV xa,iV t,iV z,iV U] 70)=W2 at aj ah ⊢
 generalize w2.heap.size=G at aj b7 ⊢
 refine Ab fun K hK=>?_
 have ac:=yb ah.o.below
 have cf:=Br (A0 bb.o (ac.o.block b au.o))
 obtain ⟨a0,a1,a2,a3,a4,a5⟩:=cf
 have x5:=(Cg ah.o.x).2.2.2.2.2
 go_wp2_with (first|(go_at_call 38;with_reducible refine (HY.o _ ac.o).mono ?_;rintro e w3 ⟨rfl,bv⟩;have az:=yb bv;clear bv))
 refine hK.o _ _ ?_
 clear hK K a0 a1 a2 a3 a4 a5 x5 p6 p7
 have g:Hid (Kk w op Fx G w3.heap.size ⟨⟨xl,xh,xa⟩,⟨t,z⟩,U⟩ ⟨⟨yl,yh,ya⟩,⟨F,E⟩,Z⟩ (w3.alloc (.cells #[iV yl,iV yh,iV ya,iV F,iV E,iV Z] 70))):=yb (by
  have h1:=ah.o.up az.o
  have h2:=h1.lt
  have h3:w3.heap[G]?=some (.cells #[iV xl,iV xh,iV xa,iV t,iV z,iV U] 70 (0,0)):=(az.o.block _ (yd.1 aj.o).1).trans aj.o
  have h4:=(yd.1 h3).1
  have h5:=h1.up ((yg _ w3).alloc (yf _) (.cells #[iV yl,iV yh,iV ya,iV F,iV E,iV Z] 70))
  exact ⟨h5.below,(Cg h5.x).1,h5.q,(yA _ _ _ h4).trans h3,World.alloc_heap_new _ _,b7.o,h2⟩)
 clear ac az ah aj b7
 generalize w3.alloc (.cells #[iV yl,iV yh,iV ya,iV F,iV E,iV Z] 70)=j at g ⊢
 generalize w3.heap.size=H at g ⊢
 clear HX HY bi bb au HK HG
 cases xo with
 |false=>
  have hf:Hid (res=(Fx,false)):=T
  have A:j.heap[w.heap.size+1]?=some (.cells jg 70 (0,0)):=g.o.q
  have ad:=yb A
  obtain ⟨q0,q1,q2,q3,q4,q5⟩:=Cg A
  have qf:=fun k=>E4 (n:=k) A
  clear A T
  refine Ab fun K hK=>?_
  clear hK
  go_wp2
  have r:=Cv ad.o (iV 0) (iV 0) (iV 0) (iV 0) (iV 0) (iV 0)
  exact A3 (c:=Fx.row) rfl rfl r.row ja rfl (by kernel_rfl) ⟨by rw[hf.o];rfl,r.below g.o.below (by omega)⟩
 |true=>
  cases yo with
  |false=>
   have hf:Hid (res=(Fx,false)):=T
   have A:j.heap[w.heap.size+1]?=some (.cells jg 70 (0,0)):=g.o.q
   have ad:=yb A
   obtain ⟨q0,q1,q2,q3,q4,q5⟩:=Cg A
   have qf:=fun k=>E4 (n:=k) A
   clear A T
   refine Ab fun K hK=>?_
   clear hK
   go_wp2
   have r:=Cv ad.o (iV 0) (iV 0) (iV 0) (iV 0) (iV 0) (iV 0)
   exact A3 (c:=Fx.row) rfl rfl r.row ja rfl (by kernel_rfl) ⟨by rw[hf.o];rfl,r.below g.o.below (by omega)⟩
  |true=>
   have i:Hid (res=(let d:=I5 op ⟨xl,xh,xa⟩ ⟨yl,yh,ya⟩
    if d.2=true then (if U≠0 then (⟨d.1,It,U⟩,true) else if Z≠0 then (⟨d.1,It,Z⟩,true) else (⟨d.1,(KB op ⟨t,z⟩ ⟨F,E⟩).1,(KB op ⟨t,z⟩ ⟨F,E⟩).2⟩,true)) else (Fx,false))):=yb T.o
   clear T
   refine Ab fun K hK=>?_
   go_wp2
   refine hK.o _ _ ?_
   clear hK K
   go_upto_region 20 with fail
   go_cut [14] from 196 (fun s wx=>∃D B C:Nat,s=pV D 0∧Hid (Xx op D B C j wx))
   case first=>
    have J:=yb g.o.op
    have I:=yb (((yg j.heap.size j).alloc (yf _) (.cells #[.nilFunc,.nilFunc] 167)).cell (p:=(aV w.heap.size 0)) (yP _ _ g.o.op) |>.trans g.o.op)
    have S:Hid (w.heap.size≠j.heap.size):=yb (by have:=yP _ _ g.o.op;show _≠_;dsimp only at this;omega)
    obtain rfl|rfl|rfl|rfl:op=3∨op=4∨op=5∨op=6:=by have:=ai.o;omega
    ·have HI:=fun B C w=>(I7 B C w).1
     unfold E3 MW Kj at HI
     go_region_held2 (fun w'=>w'.cell? (aV w.heap.size 0)=some (iV 3)) (first|exact J.o|exact I.o|exact m.o|exact a8.o _|(rw[AR _ _ S.o,AR _ _ S.o];exact m.o)) (first|(go_at_call 77;refine (EA _).mono ?_;rintro e V ⟨B,C,rfl,hb,hB,hC⟩;have m:=yb ((hb.cell (p:=(aV w.heap.size 0)) (yP _ _ (by first|exact J.o|exact I.o))).trans (by first|exact J.o|exact I.o));unfold E3 MW Kj;have a8:Hid (∀o:Obj,(V.alloc o).cell? (aV w.heap.size 0)=some (iV 3)):=yb (fun o=>(((yg V.heap.size V).alloc (yf _) o).cell (p:=(aV w.heap.size 0)) (yP _ _ m.o)).trans m.o);have O:Hid (Below j.heap.size j V):=yb (by first|exact (yg j.heap.size j).drew.trans hb|exact ((yg j.heap.size j).alloc (yf _) _).drew.trans (hb.mono (by simp)));have N:=yb (And.intro hB hC);(first|(have hr:=(hb.block j.heap.size (by simp)).trans (World.alloc_heap_new j _);obtain ⟨r0,r1,av,b5⟩:=DG hr;have HR:=yb hr;clear hr)|skip);clear hb hB hC))
     all_goals
      go_wp2
      go_meet
      case rel=>
       first
       |exact ⟨_,_,_,rfl,yb (J5 O.o N.o rfl rfl)⟩
       |exact ⟨_,_,_,rfl,yb (I8 O.o HR.o N.o rfl rfl)⟩
    ·have HI:=fun B C w=>(I7 B C w).2.1
     unfold E3 MW Kj at HI
     go_region_held2 (fun w'=>w'.cell? (aV w.heap.size 0)=some (iV 4)) (first|exact J.o|exact I.o|exact m.o|exact a8.o _|(rw[AR _ _ S.o,AR _ _ S.o];exact m.o)) (first|(go_at_call 77;refine (EA _).mono ?_;rintro e V ⟨B,C,rfl,hb,hB,hC⟩;have m:=yb ((hb.cell (p:=(aV w.heap.size 0)) (yP _ _ (by first|exact J.o|exact I.o))).trans (by first|exact J.o|exact I.o));unfold E3 MW Kj;have a8:Hid (∀o:Obj,(V.alloc o).cell? (aV w.heap.size 0)=some (iV 4)):=yb (fun o=>(((yg V.heap.size V).alloc (yf _) o).cell (p:=(aV w.heap.size 0)) (yP _ _ m.o)).trans m.o);have O:Hid (Below j.heap.size j V):=yb (by first|exact (yg j.heap.size j).drew.trans hb|exact ((yg j.heap.size j).alloc (yf _) _).drew.trans (hb.mono (by simp)));have N:=yb (And.intro hB hC);(first|(have hr:=(hb.block j.heap.size (by simp)).trans (World.alloc_heap_new j _);obtain ⟨r0,r1,av,b5⟩:=DG hr;have HR:=yb hr;clear hr)|skip);clear hb hB hC))
     all_goals
      go_wp2
      go_meet
      case rel=>
       first
       |exact ⟨_,_,_,rfl,yb (J5 O.o N.o rfl rfl)⟩
       |exact ⟨_,_,_,rfl,yb (I8 O.o HR.o N.o rfl rfl)⟩
    ·have HI:=fun B C w=>(I7 B C w).2.2.1
     unfold E3 MW Kj at HI
     go_region_held2 (fun w'=>w'.cell? (aV w.heap.size 0)=some (iV 5)) (first|exact J.o|exact I.o|exact m.o|exact a8.o _|(rw[AR _ _ S.o,AR _ _ S.o];exact m.o)) (first|(go_at_call 77;refine (EA _).mono ?_;rintro e V ⟨B,C,rfl,hb,hB,hC⟩;have m:=yb ((hb.cell (p:=(aV w.heap.size 0)) (yP _ _ (by first|exact J.o|exact I.o))).trans (by first|exact J.o|exact I.o));unfold E3 MW Kj;have a8:Hid (∀o:Obj,(V.alloc o).cell? (aV w.heap.size 0)=some (iV 5)):=yb (fun o=>(((yg V.heap.size V).alloc (yf _) o).cell (p:=(aV w.heap.size 0)) (yP _ _ m.o)).trans m.o);have O:Hid (Below j.heap.size j V):=yb (by first|exact (yg j.heap.size j).drew.trans hb|exact ((yg j.heap.size j).alloc (yf _) _).drew.trans (hb.mono (by simp)));have N:=yb (And.intro hB hC);(first|(have hr:=(hb.block j.heap.size (by simp)).trans (World.alloc_heap_new j _);obtain ⟨r0,r1,av,b5⟩:=DG hr;have HR:=yb hr;clear hr)|skip);clear hb hB hC))
     all_goals
      go_wp2
      go_meet
      case rel=>
       first
       |exact ⟨_,_,_,rfl,yb (J5 O.o N.o rfl rfl)⟩
       |exact ⟨_,_,_,rfl,yb (I8 O.o HR.o N.o rfl rfl)⟩
    ·have HI:=fun B C w=>(I7 B C w).2.2.2
     unfold E3 MW Kj at HI
     go_region_held2 (fun w'=>w'.cell? (aV w.heap.size 0)=some (iV 6)) (first|exact J.o|exact I.o|exact m.o|exact a8.o _|(rw[AR _ _ S.o,AR _ _ S.o];exact m.o)) (first|(go_at_call 77;refine (EA _).mono ?_;rintro e V ⟨B,C,rfl,hb,hB,hC⟩;have m:=yb ((hb.cell (p:=(aV w.heap.size 0)) (yP _ _ (by first|exact J.o|exact I.o))).trans (by first|exact J.o|exact I.o));unfold E3 MW Kj;have a8:Hid (∀o:Obj,(V.alloc o).cell? (aV w.heap.size 0)=some (iV 6)):=yb (fun o=>(((yg V.heap.size V).alloc (yf _) o).cell (p:=(aV w.heap.size 0)) (yP _ _ m.o)).trans m.o);have O:Hid (Below j.heap.size j V):=yb (by first|exact (yg j.heap.size j).drew.trans hb|exact ((yg j.heap.size j).alloc (yf _) _).drew.trans (hb.mono (by simp)));have N:=yb (And.intro hB hC);(first|(have hr:=(hb.block j.heap.size (by simp)).trans (World.alloc_heap_new j _);obtain ⟨r0,r1,av,b5⟩:=DG hr;have HR:=yb hr;clear hr)|skip);clear hb hB hC))
     all_goals
      go_wp2
      go_meet
      case rel=>
       first
       |exact ⟨_,_,_,rfl,yb (J5 O.o N.o rfl rfl)⟩
       |exact ⟨_,_,_,rfl,yb (I8 O.o HR.o N.o rfl rfl)⟩
   case rest=>
    obtain ⟨D,B,C,rfl,Y⟩:=hcut
    have HT:=yb (g.o.up Y.o.below)
    have ct:Hid (j.heap.size<=D):=yb Y.o.d
    have S:Hid (D≠w.heap.size+1):=yb (by have:=(yd.1 g.o.q).1;have:=Y.o.d;omega)
    clear g
    have ae:=Vt ai.o.1 ai.o.2 ⟨xl,xh,xa⟩ ⟨yl,yh,ya⟩ ch.o cn.o B C
    have am:=yb ae
    clear ae
    generalize cd:I5 op ⟨xl,xh,xa⟩ ⟨yl,yh,ya⟩=od at*
    clear cd
    obtain ⟨⟨R,Q,P⟩,ok⟩:=od
    unfold Dm.v at am
    dsimp only at am i
    go_upto_region 21 with fail
    have ab:wc.heap[G]?=some (.cells #[iV xl,iV xh,iV xa,iV t,iV z,iV U] 70 (0,0)):=HT.o.x
    have aa:wc.heap[H]?=some (.cells #[iV yl,iV yh,iV ya,iV F,iV E,iV Z] 70 (0,0)):=HT.o.y
    obtain ⟨cj,cc,cm,bh,bp,bn⟩:=Cg ab
    obtain ⟨cl,cq,ci,bu,bk,bq⟩:=Cg aa
    have ap:=(DG Y.o.row).1
    clear ab aa
    have b9:Hid (∀w6,Below wc.heap.size wc w6->w6.heap[w.heap.size+1]?=some (.cells jg 70 (0,0))∧Kk w op ⟨⟨R,Q,P⟩,It,0⟩ G H ⟨⟨xl,xh,xa⟩,⟨t,z⟩,U⟩ ⟨⟨yl,yh,ya⟩,⟨F,E⟩,Z⟩ (((w6.setCell (aV (w.heap.size+1) 0) (iV R)).setCell (aV (w.heap.size+1) 1) (iV Q)).setCell (aV (w.heap.size+1) 2) (iV P))∧(((w6.setCell (aV (w.heap.size+1) 0) (iV R)).setCell (aV (w.heap.size+1) 1) (iV Q)).setCell (aV (w.heap.size+1) 2) (iV P)).heap[D]?=some (.cells #[NF B C op,OV op] 167 (0,0))):=yb (fun w6 h6=>by
     have h1:=HT.o.up h6
     have hw:=AA (w.heap.size+1) 70 [iV R,iV Q,iV P] 0 w6 [] jj jj h1.q rfl rfl
     refine ⟨h1.q,h1.set hw,?_⟩
     have h2:w6.heap[D]?=some (.cells #[NF B C op,OV op] 167 (0,0)):=(h6.block _ (yd.1 Y.o.row).1).trans Y.o.row
     exact (hw.block D S.o).trans h2)
    go_cut [7] from 196 (fun s wx=>s=.bool ok∧Hid (Kk w op ⟨⟨R,Q,P⟩,It,0⟩ G H ⟨⟨xl,xh,xa⟩,⟨t,z⟩,U⟩ ⟨⟨yl,yh,ya⟩,⟨F,E⟩,Z⟩ wx∧wx.heap[D]?=some (.cells #[NF B C op,OV op] 167 (0,0))))
    case first=>
     rcases am.o with ⟨ae,ag⟩|⟨X,ae,ag⟩
     ·rw[ae] at ap
      have b8:=yb ag
      clear ag
      go_wp2_with (first|(go_at_call 94;with_reducible refine (b8.o _).mono ?_;rintro e w6 ⟨rfl,a7⟩;have HQ:=yb (b9.o w6 a7);obtain ⟨q0,q1,q2,q3,q4,q5⟩:=Cg HQ.o.1;have qf:=fun k=>E4 (n:=k) HQ.o.1;clear a7))
      go_meet
      case rel=>exact ⟨rfl,yb HQ.o.2⟩
     ·rw[ae] at ap
      have b8:=yb (ag wc Y.o.b Y.o.c)
      clear ag
      go_wp2_with (first|(go_at_call 103;with_reducible refine b8.o.mono ?_;rintro e w6 ⟨rfl,a7⟩;have HQ:=yb (b9.o w6 a7);obtain ⟨q0,q1,q2,q3,q4,q5⟩:=Cg HQ.o.1;have qf:=fun k=>E4 (n:=k) HQ.o.1;clear a7))
      go_meet
      case rel=>exact ⟨rfl,yb HQ.o.2⟩
    case rest=>
     obtain ⟨rfl,b4⟩:=hcut
     have g:=yb b4.o.1
     have bj:=yb b4.o.2
     clear b4 cj cc cm bh bp bn cl cq ci bu bk bq ap b9 HT Y ct am
     have A:wc.heap[w.heap.size+1]?=some (.cells #[iV R,iV Q,iV P,iV 0,iV 0,iV 0] 70 (0,0)):=g.o.q
     have ad:=yb A
     obtain ⟨q0,q1,q2,q3,q4,q5⟩:=Cg A
     have qf:=fun k=>E4 (n:=k) A
     have ab:wc.heap[G]?=some (.cells #[iV xl,iV xh,iV xa,iV t,iV z,iV U] 70 (0,0)):=g.o.x
     have aa:wc.heap[H]?=some (.cells #[iV yl,iV yh,iV ya,iV F,iV E,iV Z] 70 (0,0)):=g.o.y
     obtain ⟨-, -, -,bh,bp,bn⟩:=Cg ab
     obtain ⟨-, -, -,bu,bk,bq⟩:=Cg aa
     have c9:=(DG bj.o).2.1
     clear ab aa A
     cases ok with
     |false=>
      have hf:Hid (res=(Fx,false)):=i
      clear i
      go_wp2
      have r:=Cv ad.o (iV 0) (iV 0) (iV 0) (iV 0) (iV 0) (iV 0)
      exact A3 (c:=Fx.row) rfl rfl r.row ja rfl (by kernel_rfl) ⟨by rw[hf.o];rfl,r.below g.o.below (by omega)⟩
     |true=>
      by_cases a6:U=0
      ·by_cases af:Z=0
       ·have M:=i.o
        rw[yw rfl,yq (fun h=>h a6),yq (fun h=>h af)] at M
        have HV:=Vs ai.o.1 ai.o.2 ⟨t,z⟩ ⟨F,E⟩
        unfold Wj at HV
        generalize KB op ⟨t,z⟩ ⟨F,E⟩=rr at*
        obtain ⟨⟨vn,vd⟩,ve⟩:=rr
        have hf:Hid (res=(⟨⟨R,Q,P⟩,⟨vn,vd⟩,ve⟩,true)):=yb M
        obtain ⟨id,bx,cv,al⟩:=HV
        rw[bx] at c9
        unfold Rt.v at al
        dsimp only at al
        have ck:=yb al
        subst a6 af
        clear i M al q0 q1 q2 q3 q4 q5 qf
        go_wp2_with fail
        refine (ck.o _).mono ?_
        rintro e w6 ⟨rfl,a7⟩
        have bw:=yb (g.o.up a7)
        have an:w6.heap[w.heap.size+1]?=some (.cells #[iV R,iV Q,iV P,iV 0,iV 0,iV 0] 70 (0,0)):=bw.o.q
        have L:=yb (bw.o.set (q':=⟨⟨R,Q,P⟩,⟨vn,vd⟩,ve⟩) (AA (w.heap.size+1) _ [iV vn,iV vd,iV ve] 3 w6 [iV R,iV Q,iV P] jj [] an rfl rfl))
        simp only[World.setCells,yy,Nat.reduceAdd] at L
        obtain ⟨q0,q1,q2,q3,q4,q5⟩:=Cg an
        have qf:=fun k=>E4 (n:=k) an
        clear an a7
        go_wp2
        have r:=Cv L.o.q (iV R) (iV Q) (iV P) (iV vn) (iV vd) (iV ve)
        exact A3 (c:=(⟨⟨R,Q,P⟩,⟨vn,vd⟩,ve⟩:Qn).row) rfl rfl r.row ja rfl (by kernel_rfl) ⟨by rw[hf.o];rfl,r.below L.o.below (by omega)⟩
       ·have M:=i.o
        rw[yw rfl,yq (fun h=>h a6),yw af] at M
        have hf:Hid (res=(⟨⟨R,Q,P⟩,It,Z⟩,true)):=yb M
        have e1:(Z==0)=false:=by simpa using af
        have e2:(Z !=0)=true:=by simpa using af
        subst a6
        clear i M af
        have L:=yb (g.o.set (q':=⟨⟨R,Q,P⟩,It,Z⟩) (AA (w.heap.size+1) _ [iV Z] 5 wc [iV R,iV Q,iV P,iV 0,iV 0] [iV 0] [] ad.o rfl rfl))
        simp only[World.setCells,yy,Nat.reduceAdd] at L
        go_wp2
        have r:=Cv L.o.q (iV R) (iV Q) (iV P) (iV 0) (iV 0) (iV Z)
        exact A3 (c:=(⟨⟨R,Q,P⟩,It,Z⟩:Qn).row) rfl rfl r.row ja rfl (by kernel_rfl) ⟨by rw[hf.o];rfl,r.below L.o.below (by omega)⟩
      ·have M:=i.o
       rw[yw rfl,yw a6] at M
       have hf:Hid (res=(⟨⟨R,Q,P⟩,It,U⟩,true)):=yb M
       have e1:(U==0)=false:=by simpa using a6
       have e2:(U !=0)=true:=by simpa using a6
       clear i M a6
       have L:=yb (g.o.set (q':=⟨⟨R,Q,P⟩,It,U⟩) (AA (w.heap.size+1) _ [iV U] 5 wc [iV R,iV Q,iV P,iV 0,iV 0] [iV 0] [] ad.o rfl rfl))
       simp only[World.setCells,yy,Nat.reduceAdd] at L
       go_wp2
       have r:=Cv L.o.q (iV R) (iV Q) (iV P) (iV 0) (iV 0) (iV U)
       exact A3 (c:=(⟨⟨R,Q,P⟩,It,U⟩:Qn).row) rfl rfl r.row ja rfl (by kernel_rfl) ⟨by rw[hf.o];rfl,r.below L.o.below (by omega)⟩
end Go.Proofs.YtjofgpfocadomaaGreatDoor
