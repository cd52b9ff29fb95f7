/- units.of: operations. -/
import Derived.Test.YtjofgpfocadomaaGreatDoorUi0
import Derived.Test.YtjofgpfocadomaaGreatDoorUi10
import Derived.Test.YtjofgpfocadomaaGreatDoorUi9
import Derived.Deep.RegionHeld2
set_option maxRecDepth 100000
set_option maxHeartbeats 8000000
set_option linter.unusedSimpArgs false
namespace Go.Proofs.YtjofgpfocadomaaGreatDoor
open Go.RowKit
set_option linter.unusedSimpArgs false
structure JY (w:World) (op:Int) (q:Qn) (G H:Nat) (x y:Qn) (W:World):Prop where
 below:Below w.heap.size w W
 op:W.cell? ⟨w.heap.size,0,none⟩=some (.int .i64 op)
 q:W.heap[w.heap.size+1]?=some (.cells q.row.toArray 70 (0,0))
 x:W.heap[G]?=some (.cells x.row.toArray 70 (0,0))
 y:W.heap[H]?=some (.cells y.row.toArray 70 (0,0))
 g:w.heap.size+1 < G
 h:w.heap.size+1 < H
theorem JY.up{w:World}{op:Int}{q:Qn}{G H:Nat}{x y:Qn}{W W':World}(k:JY w op q G H x y W)(a:Below W.heap.size W W'):JY w op q G H x y W':=by
 have h1:=(yd.1 k.x).1
 have h2:=(yd.1 k.y).1
 have h3:=(yd.1 k.q).1
 exact ⟨k.below.trans (a.mono (by omega)),(a.cell (p:=(aV w.heap.size 0)) (by show w.heap.size < _;omega)).trans k.op,(a.block _ (by omega)).trans k.q,(a.block _ (by omega)).trans k.x,(a.block _ (by omega)).trans k.y,k.g,k.h⟩
theorem JY.set{w:World}{op:Int}{q q':Qn}{G H:Nat}{x y:Qn}{W W':World}(k:JY w op q G H x y W)(a:DS W W' (w.heap.size+1) q'.row 70):JY w op q' G H x y W':=by
 refine ⟨a.below k.below (by omega),?_,a.row,(a.block _ (by have:=k.g;omega)).trans k.x,(a.block _ (by have:=k.h;omega)).trans k.y,k.g,k.h⟩
 have:=k.op
 unfold World.cell? at this ⊢
 rw[a.block _ (by show w.heap.size≠_;omega)];exact this
theorem JY.drew{w:World}{op:Int}{q:Qn}{G H:Nat}{x y:Qn}{W:World}(k:JY w op q G H x y W):JY w op q G H x y W.drew:=⟨k.below.drew,k.op,k.q,k.x,k.y,k.g,k.h⟩
structure Wo (op:Int) (D B C:Nat) (W W':World):Prop where
 below:Below W.heap.size W W'
 row:W'.heap[D]?=some (.cells #[Na B C op,Ox op] 167 (0,0))
 b:W'.cell? ⟨B,0,none⟩=some (.int .i64 1)
 c:W'.cell? ⟨C,0,none⟩=some (.int .i64 (-1))
 d:W.heap.size<=D
theorem Hu(B C:Nat)(w:World):(Instr.index 168 (.agg (E6 B C).toArray) (.int .i64 3)).run Tryz.prog w=.ok (.agg #[.func (.func 94) #[] #[],.func (.func 95) #[] #[]]) w∧(Instr.index 168 (.agg (E6 B C).toArray) (.int .i64 4)).run Tryz.prog w=.ok (.agg #[.func (.func 94) #[] #[],.func (.func 96) #[] #[]]) w∧(Instr.index 168 (.agg (E6 B C).toArray) (.int .i64 5)).run Tryz.prog w=.ok (.agg #[.func (.func 103) #[] #[.pointer (some ⟨B,0,none⟩)],.func (.func 15) #[] #[]]) w∧(Instr.index 168 (.agg (E6 B C).toArray) (.int .i64 6)).run Tryz.prog w=.ok (.agg #[.func (.func 103) #[] #[.pointer (some ⟨C,0,none⟩)],.func (.func 98) #[] #[]]) w:=by
 refine ⟨?_,?_,?_,?_⟩<;>rfl
theorem AQ(W:World){b c o a:Nat}(v:Value)(h:b≠c):(W.setCell ⟨c,o,none⟩ v).cell? ⟨b,a,none⟩=W.cell? ⟨b,a,none⟩:=by
 unfold World.cell?
 rw[show (W.setCell (aV c o) v).heap[b]?=W.heap[b]? from xH W (aV c o) v b h]
theorem IP{op:Int}{W a:World}{B C:Nat}{x y:Value}(h:Below W.heap.size W a)(hb:a.cell? ⟨B,0,none⟩=some (.int .i64 1)∧a.cell? ⟨C,0,none⟩=some (.int .i64 (-1)))(d:x=Na B C op)(c:y=Ox op):Wo op a.heap.size B C W (a.alloc (.cells #[x,y] 167)):=by
 subst d c
 have b:=(yg a.heap.size a).alloc (yf _) (.cells #[Na B C op,Ox op] 167)
 exact ⟨h.alloc h.size _,World.alloc_heap_new _ _,(b.cell (p:=(aV B 0)) (yQ _ _ hb.1)).trans hb.1,(b.cell (p:=(aV C 0)) (yQ _ _ hb.2)).trans hb.2,h.size⟩
theorem Hv{op:Int}{W a:World}{B C:Nat}{x y:Value}(h:Below W.heap.size W a)(hr:a.heap[W.heap.size]?=some (.cells #[.nilFunc,.nilFunc] 167 (0,0)))(hb:a.cell? ⟨B,0,none⟩=some (.int .i64 1)∧a.cell? ⟨C,0,none⟩=some (.int .i64 (-1)))(c:x=Na B C op)(b:y=Ox op):
  Wo op W.heap.size B C W ((a.setCell ⟨W.heap.size,0,none⟩ x).setCell ⟨W.heap.size,1,none⟩ y):=by
 subst c b
 have h0:=(Dz hr).1
 have n1:B≠W.heap.size:=fun e=>by rw[e] at hb;rw[h0] at hb;cases hb.1
 have n2:C≠W.heap.size:=fun e=>by rw[e] at hb;rw[h0] at hb;cases hb.2
 refine ⟨A5 (A5 h (yf _) _) (yf _) _,Dn (Dc hr),?_,?_,yf _⟩
 ·rw[AQ _ _ n1,AQ _ _ n1];exact hb.1
 ·rw[AQ _ _ n2,AQ _ _ n2];exact hb.2
theorem Uq{op:Int}(h3:3<=op)(h6:op<=6)(a b:Rt):∃id:FuncId,Ox op=.func (.func id) #[] #[]∧(∀args W,(callFunc id args).run Tryz.prog W=.ok (.enter id args) W)∧∀W,Calls Tryz.prog id #[a.v,b.v] W (Vd op a b W):=by
 obtain rfl|rfl|rfl|rfl:op=3∨op=4∨op=5∨op=6:=by omega
 ·exact ⟨95,rfl,fun _ _=>rfl,fun W=>(N9 a b W).1⟩
 ·exact ⟨96,rfl,fun _ _=>rfl,fun W=>(N9 a b W).2.1⟩
 ·exact ⟨15,rfl,fun _ _=>rfl,fun W=>(N9 a b W).2.2.1⟩
 ·exact ⟨98,rfl,fun _ _=>rfl,fun W=>(N9 a b W).2.2.2⟩
theorem Ur{op:Int}(h3:3<=op)(h6:op<=6)(a b:Dm)(c:GA a=true)(hb:GA b=true)(B C:Nat):
  (Na B C op=.func (.func 94) #[] #[]∧∀W,Calls Tryz.prog 94 #[a.v,b.v] W fun e w'=>e=.returned (.tuple #[(QP op a b).1.v,.bool (QP op a b).2])∧Below W.heap.size W w')∨
  ∃X,Na B C op=.func (.func 103) #[] #[.pointer (some ⟨X,0,none⟩)]∧∀W,W.cell? ⟨B,0,none⟩=some (.int .i64 1)->W.cell? ⟨C,0,none⟩=some (.int .i64 (-1))->Calls Tryz.prog 103 #[a.v,b.v,.pointer (some ⟨X,0,none⟩)] W fun e w'=>e=.returned (.tuple #[(QP op a b).1.v,.bool (QP op a b).2])∧Below W.heap.size W w':=by
 obtain rfl|rfl|rfl|rfl:op=3∨op=4∨op=5∨op=6:=by omega
 ·exact .inl ⟨rfl,fun W=>L3 a b W⟩
 ·exact .inl ⟨rfl,fun W=>L3 a b W⟩
 ·exact .inr ⟨B,rfl,fun W h1 _=>Ow 5 1 (.inl ⟨rfl,rfl⟩) a b c hb B W h1⟩
 ·exact .inr ⟨C,rfl,fun W _ h2=>Ow 6 (-1) (.inr ⟨rfl,rfl⟩) a b c hb C W h2⟩
theorem Ut(g:List Kn)(h:Au)(l:Nat)(hl:l<=8)(IH:∀e cs W,GU W->Ph W h g->AG (fun b=>b < W.heap.size) W e cs->Calls Tryz.prog 38 #[h.v,.agg cs.toArray,.int .i64 l] W (Oy (DY g l e) W))(hD:∀e,GA (DY g l e).1.dim=true)
 (op:Int)(rn:ByteArray)(a:Option Addr)(cap:Nat)(x y:Ex)(w:World)(hg:GU w)(hk:Ph w h g)(h3:3<=op)(h6:op<=6)(hz:CP rn 0=true)(hr:D8 (fun b=>b < w.heap.size) w a 0 [x,y]):
  Calls Tryz.prog 38 #[h.v,.agg #[.int .i64 op,.int .i64 0,.int .i64 0,.string rn,.int .i64 0,.slice a 2 cap],.int .i64 ((l:Int)+1)] w (Oy (Vs op (DY g l x) (DY g l y)) w):=by
 have HW:=yb (Nz.new w [iV op,iV 0,iV 0,.string rn,iV 0,.slice a 2 cap])
 have hq:=L4 rn 0
 have cr:Tryz.prog.eqGuardType Tryz.prog.depth 23=false:=by kernel_rfl
 have p1:(op==1)=false:=by simp<;>omega
 have p2:(op==2)=false:=by simp<;>omega
 have p3:decide (op < 3)=false:=by simp<;>omega
 have p4:decide (6 < op)=false:=by simp<;>omega
 have p5:((l:Int)+1==0)=false:=by simp<;>omega
 have p6:wrap64 ((l:Int)+1 - 1)=(l:Int):=by rw[AP (by omega)];omega
 have p7:wrap64 (l:Int)=(l:Int):=AP (by omega)
 have HG:=yb hg
 have HK:=yb hk
 have aj:=yb (And.intro h3 h6)
 have ch:=Du hr 0 (by simp)
 have ct:=Du hr 1 (by simp)
 obtain ⟨b,o,cx,rfl,bi,aq,an⟩:=ch
 obtain ⟨b',o',cy,b5,bt,au,ak⟩:=ct
 injection b5 with b5;injection b5 with e1 e2 e3;subst e1;subst e2
 simp only[xZ,yy,Nat.zero_mul,qA,List.getElem_cons_zero,List.getElem_cons_succ] at aq an au ak
 obtain ⟨ax,bw,rfl,cq,ck,aa⟩:=an.cells
 obtain ⟨ay,bk,rfl,cc,cm,a8⟩:=ak.cells
 have HX:Hid (∀W,Below w.heap.size w W->Calls Tryz.prog 38 #[h.v,.agg #[iV x.op,iV x.n,iV x.u,.string x.rn,iV x.ri,.slice ax x.args.length bw],iV l] W (Oy (DY g l x) W)):=yb (fun W hW=>IH x _ W (hg.up hW) (hk.up hW) (an.same (fun b hb=>yv hb hW.size) (fun b hb=>hW.block b hb)))
 have HY:Hid (∀W,Below w.heap.size w W->Calls Tryz.prog 38 #[h.v,.agg #[iV y.op,iV y.n,iV y.u,.string y.rn,iV y.ri,.slice ay y.args.length bk],iV l] W (Oy (DY g l y) W)):=yb (fun W hW=>IH y _ W (hg.up hW) (hk.up hW) (ak.same (fun b hb=>yv hb hW.size) (fun b hb=>hW.block b hb)))
 have bz:=yb aq
 have bu:=yb au
 have b4:=yb bi
 have hdx:=hD x
 have bp:=hD y
 generalize DY g l x=qx at*
 generalize DY g l y=qy at*
 obtain ⟨⟨⟨xl,xh,xa⟩,⟨A,t⟩,U⟩,xo⟩:=qx
 obtain ⟨⟨⟨yl,yh,ya⟩,⟨F,E⟩,Y⟩,yo⟩:=qy
 have cf:=yb hdx
 have cn:=yb bp
 obtain ⟨res,i⟩:∃res,res=Vs op (⟨⟨xl,xh,xa⟩,⟨A,t⟩,U⟩,xo) (⟨⟨yl,yh,ya⟩,⟨F,E⟩,Y⟩,yo):=⟨_,rfl⟩
 rw[<-i]
 have T:=yb i
 unfold Oy Qn.val at HX HY
 dsimp only at HX HY
 clear i hdx bp aq au an ak hg hk IH hD hr cq ck aa cc cm a8 h3 h6 bi bt hl e3
 obtain ⟨ha,hn,hc⟩:=h
 unfold Au.v at*
 dsimp only at*
 go_enter Tryz.func38,Tryz.ntmps38
 refine Ae fun K hK=>?_
 go_wp2
 refine hK.o _ _ ?_
 clear hK
 generalize (w.alloc (.cells #[iV op,iV 0,iV 0,.string rn,iV 0,.slice (some (aV b o)) 2 cap] 26)).alloc (.cells jb 70)=W at HW ⊢
 obtain ⟨x0,x1,x2,x3,x4,x5⟩:=Ce HW.o.x
 refine Ae fun K hK=>?_
 go_wp2
 refine hK.o _ _ ?_
 clear hK K p1 p2 p3 p4 p5 hq cr hz x1 x2 x3 x4
 refine Ae fun K hK=>?_
 have ac:=yb HW.o.below
 have cd:=Bp (A0 bz.o (ac.o.block b b4.o))
 obtain ⟨a0,a1,a2,a3,a4,a5⟩:=cd
 go_wp2_with (first|(go_at_call 38;with_reducible refine (HX.o _ ac.o).mono ?_;rintro e w2 ⟨rfl,bq⟩;have b8:=yb bq;clear bq))
 refine hK.o _ _ ?_
 clear hK K a0 a1 a2 a3 a4 a5 x0 x5
 have bn:=World.alloc_heap_new w2 (.cells #[iV xl,iV xh,iV xa,iV A,iV t,iV U] 70)
 have ai:=yb bn
 have ag:=yb ((HW.o.up b8.o).up ((yg _ w2).alloc (yf _) (.cells #[iV xl,iV xh,iV xa,iV A,iV t,iV U] 70)))
 have av:Hid (w.heap.size+1 < w2.heap.size):=yb (HW.o.up b8.o).lt
 clear bn HW ac b8
 generalize w2.alloc (.cells #[iV xl,iV xh,iV xa,iV A,iV t,iV U] 70)=W2 at ai ag ⊢
 generalize w2.heap.size=G at ai av ⊢
 refine Ae fun K hK=>?_
 have ac:=yb ag.o.below
 have ci:=Bp (A0 bu.o (ac.o.block b b4.o))
 obtain ⟨a0,a1,a2,a3,a4,a5⟩:=ci
 have x5:=(Ce ag.o.x).2.2.2.2.2
 go_wp2_with (first|(go_at_call 38;with_reducible refine (HY.o _ ac.o).mono ?_;rintro e w3 ⟨rfl,bd⟩;have b9:=yb bd;clear bd))
 refine hK.o _ _ ?_
 clear hK K a0 a1 a2 a3 a4 a5 x5 p6 p7
 have f:Hid (JY w op Fq G w3.heap.size ⟨⟨xl,xh,xa⟩,⟨A,t⟩,U⟩ ⟨⟨yl,yh,ya⟩,⟨F,E⟩,Y⟩ (w3.alloc (.cells #[iV yl,iV yh,iV ya,iV F,iV E,iV Y] 70))):=yb (by
  have h1:=ag.o.up b9.o
  have h2:=h1.lt
  have h3:w3.heap[G]?=some (.cells #[iV xl,iV xh,iV xa,iV A,iV t,iV U] 70 (0,0)):=(b9.o.block _ (yd.1 ai.o).1).trans ai.o
  have h4:=(yd.1 h3).1
  have h5:=h1.up ((yg _ w3).alloc (yf _) (.cells #[iV yl,iV yh,iV ya,iV F,iV E,iV Y] 70))
  exact ⟨h5.below,(Ce h5.x).1,h5.q,(yD _ _ _ h4).trans h3,World.alloc_heap_new _ _,av.o,h2⟩)
 clear ac b9 ag ai av
 generalize w3.alloc (.cells #[iV yl,iV yh,iV ya,iV F,iV E,iV Y] 70)=j at f ⊢
 generalize w3.heap.size=H at f ⊢
 clear HX HY bz bu b4 HK HG
 cases xo with
 |false=>
  have hf:Hid (res=(Fq,false)):=T
  have z:j.heap[w.heap.size+1]?=some (.cells jb 70 (0,0)):=f.o.q
  have ad:=yb z
  obtain ⟨q0,q1,q2,q3,q4,q5⟩:=Ce z
  have qf:=fun k=>E7 (n:=k) z
  clear z T
  refine Ae fun K hK=>?_
  clear hK
  go_wp2
  have r:=Co ad.o (iV 0) (iV 0) (iV 0) (iV 0) (iV 0) (iV 0)
  exact A3 (c:=Fq.row) rfl rfl r.row j4 rfl (by kernel_rfl) ⟨by rw[hf.o];rfl,r.below f.o.below (by omega)⟩
 |true=>
  cases yo with
  |false=>
   have hf:Hid (res=(Fq,false)):=T
   have z:j.heap[w.heap.size+1]?=some (.cells jb 70 (0,0)):=f.o.q
   have ad:=yb z
   obtain ⟨q0,q1,q2,q3,q4,q5⟩:=Ce z
   have qf:=fun k=>E7 (n:=k) z
   clear z T
   refine Ae fun K hK=>?_
   clear hK
   go_wp2
   have r:=Co ad.o (iV 0) (iV 0) (iV 0) (iV 0) (iV 0) (iV 0)
   exact A3 (c:=Fq.row) rfl rfl r.row j4 rfl (by kernel_rfl) ⟨by rw[hf.o];rfl,r.below f.o.below (by omega)⟩
  |true=>
   have i:Hid (res=(let d:=QP op ⟨xl,xh,xa⟩ ⟨yl,yh,ya⟩
    if d.2=true then (if U≠0 then (⟨d.1,J2,U⟩,true) else if Y≠0 then (⟨d.1,J2,Y⟩,true) else (⟨d.1,(QO op ⟨A,t⟩ ⟨F,E⟩).1,(QO op ⟨A,t⟩ ⟨F,E⟩).2⟩,true)) else (Fq,false))):=yb T.o
   clear T
   refine Ae fun K hK=>?_
   go_wp2
   refine hK.o _ _ ?_
   clear hK K
   go_upto_region 20 with fail
   go_cut [14] from 196 (fun s wx=>∃D B C:Nat,s=pV D 0∧Hid (Wo op D B C j wx))
   case first=>
    have I:=yb f.o.op
    have J:=yb (((yg j.heap.size j).alloc (yf _) (.cells #[.nilFunc,.nilFunc] 167)).cell (p:=(aV w.heap.size 0)) (yQ _ _ f.o.op) |>.trans f.o.op)
    have S:Hid (w.heap.size≠j.heap.size):=yb (by have:=yQ _ _ f.o.op;show _≠_;dsimp only at this;omega)
    obtain rfl|rfl|rfl|rfl:op=3∨op=4∨op=5∨op=6:=by have:=aj.o;omega
    ·have HI:=fun B C w=>(Hu B C w).1
     unfold E6 Ms JX at HI
     go_region_held2 (fun w'=>w'.cell? (aV w.heap.size 0)=some (iV 3)) (first|exact I.o|exact J.o|exact m.o|exact ab.o _|(rw[AQ _ _ S.o,AQ _ _ S.o];exact m.o)) (first|(go_at_call 77;refine (EA _).mono ?_;rintro e V ⟨B,C,rfl,hb,hB,hC⟩;have m:=yb ((hb.cell (p:=(aV w.heap.size 0)) (yQ _ _ (by first|exact I.o|exact J.o))).trans (by first|exact I.o|exact J.o));unfold E6 Ms JX;have ab:Hid (∀o:Obj,(V.alloc o).cell? (aV w.heap.size 0)=some (iV 3)):=yb (fun o=>(((yg V.heap.size V).alloc (yf _) o).cell (p:=(aV w.heap.size 0)) (yQ _ _ m.o)).trans m.o);have N:Hid (Below j.heap.size j V):=yb (by first|exact (yg j.heap.size j).drew.trans hb|exact ((yg j.heap.size j).alloc (yf _) _).drew.trans (hb.mono (by simp)));have M:=yb (And.intro hB hC);(first|(have hr:=(hb.block j.heap.size (by simp)).trans (World.alloc_heap_new j _);obtain ⟨r0,r1,ba,aw⟩:=Dz hr;have HR:=yb hr;clear hr)|skip);clear hb hB hC))
     all_goals
      go_wp2
      go_meet
      case rel=>
       first
       |exact ⟨_,_,_,rfl,yb (IP N.o M.o rfl rfl)⟩
       |exact ⟨_,_,_,rfl,yb (Hv N.o HR.o M.o rfl rfl)⟩
    ·have HI:=fun B C w=>(Hu B C w).2.1
     unfold E6 Ms JX at HI
     go_region_held2 (fun w'=>w'.cell? (aV w.heap.size 0)=some (iV 4)) (first|exact I.o|exact J.o|exact m.o|exact ab.o _|(rw[AQ _ _ S.o,AQ _ _ S.o];exact m.o)) (first|(go_at_call 77;refine (EA _).mono ?_;rintro e V ⟨B,C,rfl,hb,hB,hC⟩;have m:=yb ((hb.cell (p:=(aV w.heap.size 0)) (yQ _ _ (by first|exact I.o|exact J.o))).trans (by first|exact I.o|exact J.o));unfold E6 Ms JX;have ab:Hid (∀o:Obj,(V.alloc o).cell? (aV w.heap.size 0)=some (iV 4)):=yb (fun o=>(((yg V.heap.size V).alloc (yf _) o).cell (p:=(aV w.heap.size 0)) (yQ _ _ m.o)).trans m.o);have N:Hid (Below j.heap.size j V):=yb (by first|exact (yg j.heap.size j).drew.trans hb|exact ((yg j.heap.size j).alloc (yf _) _).drew.trans (hb.mono (by simp)));have M:=yb (And.intro hB hC);(first|(have hr:=(hb.block j.heap.size (by simp)).trans (World.alloc_heap_new j _);obtain ⟨r0,r1,ba,aw⟩:=Dz hr;have HR:=yb hr;clear hr)|skip);clear hb hB hC))
     all_goals
      go_wp2
      go_meet
      case rel=>
       first
       |exact ⟨_,_,_,rfl,yb (IP N.o M.o rfl rfl)⟩
       |exact ⟨_,_,_,rfl,yb (Hv N.o HR.o M.o rfl rfl)⟩
    ·have HI:=fun B C w=>(Hu B C w).2.2.1
     unfold E6 Ms JX at HI
     go_region_held2 (fun w'=>w'.cell? (aV w.heap.size 0)=some (iV 5)) (first|exact I.o|exact J.o|exact m.o|exact ab.o _|(rw[AQ _ _ S.o,AQ _ _ S.o];exact m.o)) (first|(go_at_call 77;refine (EA _).mono ?_;rintro e V ⟨B,C,rfl,hb,hB,hC⟩;have m:=yb ((hb.cell (p:=(aV w.heap.size 0)) (yQ _ _ (by first|exact I.o|exact J.o))).trans (by first|exact I.o|exact J.o));unfold E6 Ms JX;have ab:Hid (∀o:Obj,(V.alloc o).cell? (aV w.heap.size 0)=some (iV 5)):=yb (fun o=>(((yg V.heap.size V).alloc (yf _) o).cell (p:=(aV w.heap.size 0)) (yQ _ _ m.o)).trans m.o);have N:Hid (Below j.heap.size j V):=yb (by first|exact (yg j.heap.size j).drew.trans hb|exact ((yg j.heap.size j).alloc (yf _) _).drew.trans (hb.mono (by simp)));have M:=yb (And.intro hB hC);(first|(have hr:=(hb.block j.heap.size (by simp)).trans (World.alloc_heap_new j _);obtain ⟨r0,r1,ba,aw⟩:=Dz hr;have HR:=yb hr;clear hr)|skip);clear hb hB hC))
     all_goals
      go_wp2
      go_meet
      case rel=>
       first
       |exact ⟨_,_,_,rfl,yb (IP N.o M.o rfl rfl)⟩
       |exact ⟨_,_,_,rfl,yb (Hv N.o HR.o M.o rfl rfl)⟩
    ·have HI:=fun B C w=>(Hu B C w).2.2.2
     unfold E6 Ms JX at HI
     go_region_held2 (fun w'=>w'.cell? (aV w.heap.size 0)=some (iV 6)) (first|exact I.o|exact J.o|exact m.o|exact ab.o _|(rw[AQ _ _ S.o,AQ _ _ S.o];exact m.o)) (first|(go_at_call 77;refine (EA _).mono ?_;rintro e V ⟨B,C,rfl,hb,hB,hC⟩;have m:=yb ((hb.cell (p:=(aV w.heap.size 0)) (yQ _ _ (by first|exact I.o|exact J.o))).trans (by first|exact I.o|exact J.o));unfold E6 Ms JX;have ab:Hid (∀o:Obj,(V.alloc o).cell? (aV w.heap.size 0)=some (iV 6)):=yb (fun o=>(((yg V.heap.size V).alloc (yf _) o).cell (p:=(aV w.heap.size 0)) (yQ _ _ m.o)).trans m.o);have N:Hid (Below j.heap.size j V):=yb (by first|exact (yg j.heap.size j).drew.trans hb|exact ((yg j.heap.size j).alloc (yf _) _).drew.trans (hb.mono (by simp)));have M:=yb (And.intro hB hC);(first|(have hr:=(hb.block j.heap.size (by simp)).trans (World.alloc_heap_new j _);obtain ⟨r0,r1,ba,aw⟩:=Dz hr;have HR:=yb hr;clear hr)|skip);clear hb hB hC))
     all_goals
      go_wp2
      go_meet
      case rel=>
       first
       |exact ⟨_,_,_,rfl,yb (IP N.o M.o rfl rfl)⟩
       |exact ⟨_,_,_,rfl,yb (Hv N.o HR.o M.o rfl rfl)⟩
   case rest=>
    obtain ⟨D,B,C,rfl,Z⟩:=hcut
    have HT:=yb (f.o.up Z.o.below)
    have cv:Hid (j.heap.size<=D):=yb Z.o.d
    have S:Hid (D≠w.heap.size+1):=yb (by have:=(yd.1 f.o.q).1;have:=Z.o.d;omega)
    clear f
    have ae:=Ur aj.o.1 aj.o.2 ⟨xl,xh,xa⟩ ⟨yl,yh,ya⟩ cf.o cn.o B C
    have ao:=yb ae
    clear ae
    generalize cp:QP op ⟨xl,xh,xa⟩ ⟨yl,yh,ya⟩=od at*
    clear cp
    obtain ⟨⟨Q,P,R⟩,ok⟩:=od
    unfold Dm.v at ao
    dsimp only at ao i
    go_upto_region 21 with fail
    have aa:wc.heap[G]?=some (.cells #[iV xl,iV xh,iV xa,iV A,iV t,iV U] 70 (0,0)):=HT.o.x
    have a8:wc.heap[H]?=some (.cells #[iV yl,iV yh,iV ya,iV F,iV E,iV Y] 70 (0,0)):=HT.o.y
    obtain ⟨c9,cj,co,bx,bm,bo⟩:=Ce aa
    obtain ⟨c8,ce,cl,bb,bg,bv⟩:=Ce a8
    have az:=(Dz Z.o.row).1
    clear aa a8
    have b7:Hid (∀w6,Below wc.heap.size wc w6->w6.heap[w.heap.size+1]?=some (.cells jb 70 (0,0))∧JY w op ⟨⟨Q,P,R⟩,J2,0⟩ G H ⟨⟨xl,xh,xa⟩,⟨A,t⟩,U⟩ ⟨⟨yl,yh,ya⟩,⟨F,E⟩,Y⟩ (((w6.setCell (aV (w.heap.size+1) 0) (iV Q)).setCell (aV (w.heap.size+1) 1) (iV P)).setCell (aV (w.heap.size+1) 2) (iV R))∧(((w6.setCell (aV (w.heap.size+1) 0) (iV Q)).setCell (aV (w.heap.size+1) 1) (iV P)).setCell (aV (w.heap.size+1) 2) (iV R)).heap[D]?=some (.cells #[Na B C op,Ox op] 167 (0,0))):=yb (fun w6 h6=>by
     have h1:=HT.o.up h6
     have hw:=AR (w.heap.size+1) 70 [iV Q,iV P,iV R] 0 w6 [] jf jf h1.q rfl rfl
     refine ⟨h1.q,h1.set hw,?_⟩
     have h2:w6.heap[D]?=some (.cells #[Na B C op,Ox op] 167 (0,0)):=(h6.block _ (yd.1 Z.o.row).1).trans Z.o.row
     exact (hw.block D S.o).trans h2)
    go_cut [7] from 196 (fun s wx=>s=.bool ok∧Hid (JY w op ⟨⟨Q,P,R⟩,J2,0⟩ G H ⟨⟨xl,xh,xa⟩,⟨A,t⟩,U⟩ ⟨⟨yl,yh,ya⟩,⟨F,E⟩,Y⟩ wx∧wx.heap[D]?=some (.cells #[Na B C op,Ox op] 167 (0,0))))
    case first=>
     rcases ao.o with ⟨ae,ah⟩|⟨X,ae,ah⟩
     ·rw[ae] at az
      have b0:=yb ah
      clear ah
      go_wp2_with (first|(go_at_call 94;with_reducible refine (b0.o _).mono ?_;rintro e w6 ⟨rfl,a6⟩;have HQ:=yb (b7.o w6 a6);obtain ⟨q0,q1,q2,q3,q4,q5⟩:=Ce HQ.o.1;have qf:=fun k=>E7 (n:=k) HQ.o.1;clear a6))
      go_meet
      case rel=>exact ⟨rfl,yb HQ.o.2⟩
     ·rw[ae] at az
      have b0:=yb (ah wc Z.o.b Z.o.c)
      clear ah
      go_wp2_with (first|(go_at_call 103;with_reducible refine b0.o.mono ?_;rintro e w6 ⟨rfl,a6⟩;have HQ:=yb (b7.o w6 a6);obtain ⟨q0,q1,q2,q3,q4,q5⟩:=Ce HQ.o.1;have qf:=fun k=>E7 (n:=k) HQ.o.1;clear a6))
      go_meet
      case rel=>exact ⟨rfl,yb HQ.o.2⟩
    case rest=>
     obtain ⟨rfl,ar⟩:=hcut
     have f:=yb ar.o.1
     have bh:=yb ar.o.2
     clear ar c9 cj co bx bm bo c8 ce cl bb bg bv az b7 HT Z cv ao
     have z:wc.heap[w.heap.size+1]?=some (.cells #[iV Q,iV P,iV R,iV 0,iV 0,iV 0] 70 (0,0)):=f.o.q
     have ad:=yb z
     obtain ⟨q0,q1,q2,q3,q4,q5⟩:=Ce z
     have qf:=fun k=>E7 (n:=k) z
     have aa:wc.heap[G]?=some (.cells #[iV xl,iV xh,iV xa,iV A,iV t,iV U] 70 (0,0)):=f.o.x
     have a8:wc.heap[H]?=some (.cells #[iV yl,iV yh,iV ya,iV F,iV E,iV Y] 70 (0,0)):=f.o.y
     obtain ⟨-, -, -,bx,bm,bo⟩:=Ce aa
     obtain ⟨-, -, -,bb,bg,bv⟩:=Ce a8
     have cu:=(Dz bh.o).2.1
     clear aa a8 z
     cases ok with
     |false=>
      have hf:Hid (res=(Fq,false)):=i
      clear i
      go_wp2
      have r:=Co ad.o (iV 0) (iV 0) (iV 0) (iV 0) (iV 0) (iV 0)
      exact A3 (c:=Fq.row) rfl rfl r.row j4 rfl (by kernel_rfl) ⟨by rw[hf.o];rfl,r.below f.o.below (by omega)⟩
     |true=>
      by_cases a7:U=0
      ·by_cases af:Y=0
       ·have L:=i.o
        rw[yw rfl,yt (fun h=>h a7),yt (fun h=>h af)] at L
        have HV:=Uq aj.o.1 aj.o.2 ⟨A,t⟩ ⟨F,E⟩
        unfold Vd at HV
        generalize QO op ⟨A,t⟩ ⟨F,E⟩=rr at*
        obtain ⟨⟨vn,vd⟩,ve⟩:=rr
        have hf:Hid (res=(⟨⟨Q,P,R⟩,⟨vn,vd⟩,ve⟩,true)):=yb L
        obtain ⟨id,bj,cw,ap⟩:=HV
        rw[bj] at cu
        unfold Rt.v at ap
        dsimp only at ap
        have cg:=yb ap
        subst a7 af
        clear i L ap q0 q1 q2 q3 q4 q5 qf
        go_wp2_with fail
        refine (cg.o _).mono ?_
        rintro e w6 ⟨rfl,a6⟩
        have be:=yb (f.o.up a6)
        have am:w6.heap[w.heap.size+1]?=some (.cells #[iV Q,iV P,iV R,iV 0,iV 0,iV 0] 70 (0,0)):=be.o.q
        have O:=yb (be.o.set (q':=⟨⟨Q,P,R⟩,⟨vn,vd⟩,ve⟩) (AR (w.heap.size+1) _ [iV vn,iV vd,iV ve] 3 w6 [iV Q,iV P,iV R] jf [] am rfl rfl))
        simp only[World.setCells,yy,Nat.reduceAdd] at O
        obtain ⟨q0,q1,q2,q3,q4,q5⟩:=Ce am
        have qf:=fun k=>E7 (n:=k) am
        clear am a6
        go_wp2
        have r:=Co O.o.q (iV Q) (iV P) (iV R) (iV vn) (iV vd) (iV ve)
        exact A3 (c:=(⟨⟨Q,P,R⟩,⟨vn,vd⟩,ve⟩:Qn).row) rfl rfl r.row j4 rfl (by kernel_rfl) ⟨by rw[hf.o];rfl,r.below O.o.below (by omega)⟩
       ·have L:=i.o
        rw[yw rfl,yt (fun h=>h a7),yw af] at L
        have hf:Hid (res=(⟨⟨Q,P,R⟩,J2,Y⟩,true)):=yb L
        have e1:(Y==0)=false:=by simpa using af
        have e2:(Y !=0)=true:=by simpa using af
        subst a7
        clear i L af
        have O:=yb (f.o.set (q':=⟨⟨Q,P,R⟩,J2,Y⟩) (AR (w.heap.size+1) _ [iV Y] 5 wc [iV Q,iV P,iV R,iV 0,iV 0] [iV 0] [] ad.o rfl rfl))
        simp only[World.setCells,yy,Nat.reduceAdd] at O
        go_wp2
        have r:=Co O.o.q (iV Q) (iV P) (iV R) (iV 0) (iV 0) (iV Y)
        exact A3 (c:=(⟨⟨Q,P,R⟩,J2,Y⟩:Qn).row) rfl rfl r.row j4 rfl (by kernel_rfl) ⟨by rw[hf.o];rfl,r.below O.o.below (by omega)⟩
      ·have L:=i.o
       rw[yw rfl,yw a7] at L
       have hf:Hid (res=(⟨⟨Q,P,R⟩,J2,U⟩,true)):=yb L
       have e1:(U==0)=false:=by simpa using a7
       have e2:(U !=0)=true:=by simpa using a7
       clear i L a7
       have O:=yb (f.o.set (q':=⟨⟨Q,P,R⟩,J2,U⟩) (AR (w.heap.size+1) _ [iV U] 5 wc [iV Q,iV P,iV R,iV 0,iV 0] [iV 0] [] ad.o rfl rfl))
       simp only[World.setCells,yy,Nat.reduceAdd] at O
       go_wp2
       have r:=Co O.o.q (iV Q) (iV P) (iV R) (iV 0) (iV 0) (iV U)
       exact A3 (c:=(⟨⟨Q,P,R⟩,J2,U⟩:Qn).row) rfl rfl r.row j4 rfl (by kernel_rfl) ⟨by rw[hf.o];rfl,r.below O.o.below (by omega)⟩
end Go.Proofs.YtjofgpfocadomaaGreatDoor
