/- units.of: operations. -/
import Derived.Test.YtjofgpfocadomaaGreatDoorUs0
import Derived.Test.YtjofgpfocadomaaGreatDoorUs11
import Derived.Test.YtjofgpfocadomaaGreatDoorUs10
import Derived.Deep.RegionHeld2
set_option maxRecDepth 100000
set_option maxHeartbeats 8000000
set_option linter.unusedSimpArgs false
namespace Go.Proofs.YtjofgpfocadomaaGreatDoor
open Go.RowKit
set_option linter.unusedSimpArgs false
structure JK (w:World) (op:Int) (q:Qn) (G H:Nat) (x y:Qn) (W:World):Prop where
 below:Below w.heap.size w W
 op:W.cell? ⟨w.heap.size,0,none⟩=some (.int .i64 op)
 q:W.heap[w.heap.size+1]?=some (.cells q.row.toArray 70 (0,0))
 x:W.heap[G]?=some (.cells x.row.toArray 70 (0,0))
 y:W.heap[H]?=some (.cells y.row.toArray 70 (0,0))
 g:w.heap.size+1 < G
 h:w.heap.size+1 < H
theorem JK.up{w:World}{op:Int}{q:Qn}{G H:Nat}{x y:Qn}{W W':World}(k:JK w op q G H x y W)(a:Below W.heap.size W W'):JK w op q G H x y W':=by
 have h1:=(yd.1 k.x).1
 have h2:=(yd.1 k.y).1
 have h3:=(yd.1 k.q).1
 exact ⟨k.below.trans (a.mono (by omega)),(a.cell (p:=(aV w.heap.size 0)) (by show w.heap.size < _;omega)).trans k.op,(a.block _ (by omega)).trans k.q,(a.block _ (by omega)).trans k.x,(a.block _ (by omega)).trans k.y,k.g,k.h⟩
theorem JK.set{w:World}{op:Int}{q q':Qn}{G H:Nat}{x y:Qn}{W W':World}(k:JK w op q G H x y W)(a:Dj W W' (w.heap.size+1) q'.row 70):JK w op q' G H x y W':=by
 refine ⟨a.below k.below (by omega),?_,a.row,(a.block _ (by have:=k.g;omega)).trans k.x,(a.block _ (by have:=k.h;omega)).trans k.y,k.g,k.h⟩
 have:=k.op
 unfold World.cell? at this ⊢
 rw[a.block _ (by show w.heap.size≠_;omega)];exact this
theorem JK.drew{w:World}{op:Int}{q:Qn}{G H:Nat}{x y:Qn}{W:World}(k:JK w op q G H x y W):JK w op q G H x y W.drew:=⟨k.below.drew,k.op,k.q,k.x,k.y,k.g,k.h⟩
structure VU (op:Int) (D B C:Nat) (W W':World):Prop where
 below:Below W.heap.size W W'
 row:W'.heap[D]?=some (.cells #[MT B C op,Oa op] 167 (0,0))
 b:W'.cell? ⟨B,0,none⟩=some (.int .i64 1)
 c:W'.cell? ⟨C,0,none⟩=some (.int .i64 (-1))
 d:W.heap.size<=D
theorem Hk(B C:Nat)(w:World):(Instr.index 168 (.agg (DW B C).toArray) (.int .i64 3)).run Tryz.prog w=.ok (.agg #[.func (.func 94) #[] #[],.func (.func 95) #[] #[]]) w∧(Instr.index 168 (.agg (DW B C).toArray) (.int .i64 4)).run Tryz.prog w=.ok (.agg #[.func (.func 94) #[] #[],.func (.func 96) #[] #[]]) w∧(Instr.index 168 (.agg (DW B C).toArray) (.int .i64 5)).run Tryz.prog w=.ok (.agg #[.func (.func 103) #[] #[.pointer (some ⟨B,0,none⟩)],.func (.func 15) #[] #[]]) w∧(Instr.index 168 (.agg (DW B C).toArray) (.int .i64 6)).run Tryz.prog w=.ok (.agg #[.func (.func 103) #[] #[.pointer (some ⟨C,0,none⟩)],.func (.func 98) #[] #[]]) w:=by
 refine ⟨?_,?_,?_,?_⟩<;>rfl
theorem AQ(W:World){b c o a:Nat}(v:Value)(h:b≠c):(W.setCell ⟨c,o,none⟩ v).cell? ⟨b,a,none⟩=W.cell? ⟨b,a,none⟩:=by
 unfold World.cell?
 rw[show (W.setCell (aV c o) v).heap[b]?=W.heap[b]? from xE W (aV c o) v b h]
theorem IB{op:Int}{W a:World}{B C:Nat}{x y:Value}(h:Below W.heap.size W a)(hb:a.cell? ⟨B,0,none⟩=some (.int .i64 1)∧a.cell? ⟨C,0,none⟩=some (.int .i64 (-1)))(d:x=MT B C op)(c:y=Oa op):VU op a.heap.size B C W (a.alloc (.cells #[x,y] 167)):=by
 subst d c
 have b:=(yg a.heap.size a).alloc (yf _) (.cells #[MT B C op,Oa op] 167)
 exact ⟨h.alloc h.size _,World.alloc_heap_new _ _,(b.cell (p:=(aV B 0)) (yO _ _ hb.1)).trans hb.1,(b.cell (p:=(aV C 0)) (yO _ _ hb.2)).trans hb.2,h.size⟩
theorem Hl{op:Int}{W a:World}{B C:Nat}{x y:Value}(h:Below W.heap.size W a)(hr:a.heap[W.heap.size]?=some (.cells #[.nilFunc,.nilFunc] 167 (0,0)))(hb:a.cell? ⟨B,0,none⟩=some (.int .i64 1)∧a.cell? ⟨C,0,none⟩=some (.int .i64 (-1)))(c:x=MT B C op)(b:y=Oa op):
  VU op W.heap.size B C W ((a.setCell ⟨W.heap.size,0,none⟩ x).setCell ⟨W.heap.size,1,none⟩ y):=by
 subst c b
 have h0:=(Dv hr).1
 have n1:B≠W.heap.size:=fun e=>by rw[e] at hb;rw[h0] at hb;cases hb.1
 have n2:C≠W.heap.size:=fun e=>by rw[e] at hb;rw[h0] at hb;cases hb.2
 refine ⟨A5 (A5 h (yf _) _) (yf _) _,Dk (Db hr),?_,?_,yf _⟩
 ·rw[AQ _ _ n1,AQ _ _ n1];exact hb.1
 ·rw[AQ _ _ n2,AQ _ _ n2];exact hb.2
theorem Ub{op:Int}(h3:3<=op)(c:op<=6)(a b:Rt):∃id:FuncId,Oa op=.func (.func id) #[] #[]∧(∀args W,(callFunc id args).run Tryz.prog W=.ok (.enter id args) W)∧∀W,Calls Tryz.prog id #[a.v,b.v] W (UU op a b W):=by
 obtain rfl|rfl|rfl|rfl:op=3∨op=4∨op=5∨op=6:=by omega
 ·exact ⟨95,rfl,fun _ _=>rfl,fun W=>(MS a b W).1⟩
 ·exact ⟨96,rfl,fun _ _=>rfl,fun W=>(MS a b W).2.1⟩
 ·exact ⟨15,rfl,fun _ _=>rfl,fun W=>(MS a b W).2.2.1⟩
 ·exact ⟨98,rfl,fun _ _=>rfl,fun W=>(MS a b W).2.2.2⟩
theorem Uc{op:Int}(h3:3<=op)(d:op<=6)(a b:Dm)(c:Gt a=true)(hb:Gt b=true)(B C:Nat):
  (MT B C op=.func (.func 94) #[] #[]∧∀W,Calls Tryz.prog 94 #[a.v,b.v] W fun e w'=>e=.returned (.tuple #[(Qz op a b).1.v,.bool (Qz op a b).2])∧Below W.heap.size W w')∨
  ∃X,MT B C op=.func (.func 103) #[] #[.pointer (some ⟨X,0,none⟩)]∧∀W,W.cell? ⟨B,0,none⟩=some (.int .i64 1)->W.cell? ⟨C,0,none⟩=some (.int .i64 (-1))->Calls Tryz.prog 103 #[a.v,b.v,.pointer (some ⟨X,0,none⟩)] W fun e w'=>e=.returned (.tuple #[(Qz op a b).1.v,.bool (Qz op a b).2])∧Below W.heap.size W w':=by
 obtain rfl|rfl|rfl|rfl:op=3∨op=4∨op=5∨op=6:=by omega
 ·exact .inl ⟨rfl,fun W=>KP a b W⟩
 ·exact .inl ⟨rfl,fun W=>KP a b W⟩
 ·exact .inr ⟨B,rfl,fun W h1 _=>O9 5 1 (.inl ⟨rfl,rfl⟩) a b c hb B W h1⟩
 ·exact .inr ⟨C,rfl,fun W _ h2=>O9 6 (-1) (.inr ⟨rfl,rfl⟩) a b c hb C W h2⟩
theorem Ud(f:List Kn)(h:As)(l:Nat)(hl:l<=8)(IH:∀e cs W,GU W->OY W h f->AH (fun b=>b < W.heap.size) W e cs->Calls Tryz.prog 38 #[h.v,.agg cs.toArray,.int .i64 l] W (Ob (DV f l e) W))(hD:∀e,Gt (DV f l e).1.dim=true)
 (op:Int)(rn:ByteArray)(a:Option Addr)(cap:Nat)(x y:Ex)(w:World)(hg:GU w)(hk:OY w h f)(h3:3<=op)(h6:op<=6)(hz:CL rn 0=true)(hr:D5 (fun b=>b < w.heap.size) w a 0 [x,y]):
  Calls Tryz.prog 38 #[h.v,.agg #[.int .i64 op,.int .i64 0,.int .i64 0,.string rn,.int .i64 0,.slice a 2 cap],.int .i64 ((l:Int)+1)] w (Ob (Vb op (DV f l x) (DV f l y)) w):=by
 have HW:=yb (Ng.new w [iV op,iV 0,iV 0,.string rn,iV 0,.slice a 2 cap])
 have hq:=KQ rn 0
 have ce:Tryz.prog.eqGuardType Tryz.prog.depth 23=false:=by kernel_rfl
 have p1:(op==1)=false:=by simp<;>omega
 have p2:(op==2)=false:=by simp<;>omega
 have p3:decide (op < 3)=false:=by simp<;>omega
 have p4:decide (6 < op)=false:=by simp<;>omega
 have p5:((l:Int)+1==0)=false:=by simp<;>omega
 have p6:wrap64 ((l:Int)+1 - 1)=(l:Int):=by rw[AL (by omega)];omega
 have p7:wrap64 (l:Int)=(l:Int):=AL (by omega)
 have HG:=yb hg
 have HK:=yb hk
 have aj:=yb (And.intro h3 h6)
 have bz:=Dr hr 0 (by simp)
 have cq:=Dr hr 1 (by simp)
 obtain ⟨b,o,cx,rfl,bx,az,am⟩:=bz
 obtain ⟨b',o',cy,aq,bp,ar,an⟩:=cq
 injection aq with aq;injection aq with e1 e2 e3;subst e1;subst e2
 simp only[qj,yw,Nat.zero_mul,qr,List.getElem_cons_zero,List.getElem_cons_succ] at az am ar an
 obtain ⟨ax,bn,rfl,cf,cd,ad⟩:=am.cells
 obtain ⟨ay,bu,rfl,ck,cg,aa⟩:=an.cells
 have HX:Hid (∀W,Below w.heap.size w W->Calls Tryz.prog 38 #[h.v,.agg #[iV x.op,iV x.n,iV x.u,.string x.rn,iV x.ri,.slice ax x.args.length bn],iV l] W (Ob (DV f l x) W)):=yb (fun W hW=>IH x _ W (hg.up hW) (hk.up hW) (am.same (fun b hb=>yu hb hW.size) (fun b hb=>hW.block b hb)))
 have HY:Hid (∀W,Below w.heap.size w W->Calls Tryz.prog 38 #[h.v,.agg #[iV y.op,iV y.n,iV y.u,.string y.rn,iV y.ri,.slice ay y.args.length bu],iV l] W (Ob (DV f l y) W)):=yb (fun W hW=>IH y _ W (hg.up hW) (hk.up hW) (an.same (fun b hb=>yu hb hW.size) (fun b hb=>hW.block b hb)))
 have bt:=yb az
 have bw:=yb ar
 have b4:=yb bx
 have hdx:=hD x
 have bv:=hD y
 generalize DV f l x=qx at*
 generalize DV f l y=qy at*
 obtain ⟨⟨⟨xl,xh,xa⟩,⟨t,A⟩,U⟩,xo⟩:=qx
 obtain ⟨⟨⟨yl,yh,ya⟩,⟨E,F⟩,Y⟩,yo⟩:=qy
 have cl:=yb hdx
 have cn:=yb bv
 obtain ⟨res,i⟩:∃res,res=Vb op (⟨⟨xl,xh,xa⟩,⟨t,A⟩,U⟩,xo) (⟨⟨yl,yh,ya⟩,⟨E,F⟩,Y⟩,yo):=⟨_,rfl⟩
 rw[<-i]
 have T:=yb i
 unfold Ob Qn.val at HX HY
 dsimp only at HX HY
 clear i hdx bv az ar am an hg hk IH hD hr cf cd ad ck cg aa h3 h6 bx bp hl e3
 obtain ⟨ha,hn,hc⟩:=h
 unfold As.v at*
 dsimp only at*
 go_enter Tryz.func38,Tryz.ntmps38
 refine Ae fun K hK=>?_
 go_wp2
 refine hK.o _ _ ?_
 clear hK
 generalize (w.alloc (.cells #[iV op,iV 0,iV 0,.string rn,iV 0,.slice (some (aV b o)) 2 cap] 26)).alloc (.cells j4 70)=W at HW ⊢
 obtain ⟨x0,x1,x2,x3,x4,x5⟩:=Cg HW.o.x
 refine Ae fun K hK=>?_
 go_wp2
 refine hK.o _ _ ?_
 clear hK K p1 p2 p3 p4 p5 hq ce hz x1 x2 x3 x4
 refine Ae fun K hK=>?_
 have a8:=yb HW.o.below
 have co:=Bn (A0 bt.o (a8.o.block b b4.o))
 obtain ⟨a0,a1,a2,a3,a4,a5⟩:=co
 go_wp2_with (first|(go_at_call 38;with_reducible refine (HX.o _ a8.o).mono ?_;rintro e w2 ⟨rfl,bj⟩;have b9:=yb bj;clear bj))
 refine hK.o _ _ ?_
 clear hK K a0 a1 a2 a3 a4 a5 x0 x5
 have bm:=World.alloc_heap_new w2 (.cells #[iV xl,iV xh,iV xa,iV t,iV A,iV U] 70)
 have ag:=yb bm
 have ai:=yb ((HW.o.up b9.o).up ((yg _ w2).alloc (yf _) (.cells #[iV xl,iV xh,iV xa,iV t,iV A,iV U] 70)))
 have av:Hid (w.heap.size+1 < w2.heap.size):=yb (HW.o.up b9.o).lt
 clear bm HW a8 b9
 generalize w2.alloc (.cells #[iV xl,iV xh,iV xa,iV t,iV A,iV U] 70)=W2 at ag ai ⊢
 generalize w2.heap.size=G at ag av ⊢
 refine Ae fun K hK=>?_
 have a8:=yb ai.o.below
 have c8:=Bn (A0 bw.o (a8.o.block b b4.o))
 obtain ⟨a0,a1,a2,a3,a4,a5⟩:=c8
 have x5:=(Cg ai.o.x).2.2.2.2.2
 go_wp2_with (first|(go_at_call 38;with_reducible refine (HY.o _ a8.o).mono ?_;rintro e w3 ⟨rfl,bg⟩;have b5:=yb bg;clear bg))
 refine hK.o _ _ ?_
 clear hK K a0 a1 a2 a3 a4 a5 x5 p6 p7
 have g:Hid (JK w op Fj G w3.heap.size ⟨⟨xl,xh,xa⟩,⟨t,A⟩,U⟩ ⟨⟨yl,yh,ya⟩,⟨E,F⟩,Y⟩ (w3.alloc (.cells #[iV yl,iV yh,iV ya,iV E,iV F,iV Y] 70))):=yb (by
  have h1:=ai.o.up b5.o
  have h2:=h1.lt
  have h3:w3.heap[G]?=some (.cells #[iV xl,iV xh,iV xa,iV t,iV A,iV U] 70 (0,0)):=(b5.o.block _ (yd.1 ag.o).1).trans ag.o
  have h4:=(yd.1 h3).1
  have h5:=h1.up ((yg _ w3).alloc (yf _) (.cells #[iV yl,iV yh,iV ya,iV E,iV F,iV Y] 70))
  exact ⟨h5.below,(Cg h5.x).1,h5.q,(yA _ _ _ h4).trans h3,World.alloc_heap_new _ _,av.o,h2⟩)
 clear a8 b5 ai ag av
 generalize w3.alloc (.cells #[iV yl,iV yh,iV ya,iV E,iV F,iV Y] 70)=m at g ⊢
 generalize w3.heap.size=H at g ⊢
 clear HX HY bt bw b4 HK HG
 cases xo with
 |false=>
  have hf:Hid (res=(Fj,false)):=T
  have z:m.heap[w.heap.size+1]?=some (.cells j4 70 (0,0)):=g.o.q
  have ab:=yb z
  obtain ⟨q0,q1,q2,q3,q4,q5⟩:=Cg z
  have qf:=fun k=>DX (n:=k) z
  clear z T
  refine Ae fun K hK=>?_
  clear hK
  go_wp2
  have r:=Co ab.o (iV 0) (iV 0) (iV 0) (iV 0) (iV 0) (iV 0)
  exact A3 (c:=Fj.row) rfl rfl r.row qY rfl (by kernel_rfl) ⟨by rw[hf.o];rfl,r.below g.o.below (by omega)⟩
 |true=>
  cases yo with
  |false=>
   have hf:Hid (res=(Fj,false)):=T
   have z:m.heap[w.heap.size+1]?=some (.cells j4 70 (0,0)):=g.o.q
   have ab:=yb z
   obtain ⟨q0,q1,q2,q3,q4,q5⟩:=Cg z
   have qf:=fun k=>DX (n:=k) z
   clear z T
   refine Ae fun K hK=>?_
   clear hK
   go_wp2
   have r:=Co ab.o (iV 0) (iV 0) (iV 0) (iV 0) (iV 0) (iV 0)
   exact A3 (c:=Fj.row) rfl rfl r.row qY rfl (by kernel_rfl) ⟨by rw[hf.o];rfl,r.below g.o.below (by omega)⟩
  |true=>
   have i:Hid (res=(let d:=Qz op ⟨xl,xh,xa⟩ ⟨yl,yh,ya⟩
    if d.2=true then (if U≠0 then (⟨d.1,IP,U⟩,true) else if Y≠0 then (⟨d.1,IP,Y⟩,true) else (⟨d.1,(Qy op ⟨t,A⟩ ⟨E,F⟩).1,(Qy op ⟨t,A⟩ ⟨E,F⟩).2⟩,true)) else (Fj,false))):=yb T.o
   clear T
   refine Ae fun K hK=>?_
   go_wp2
   refine hK.o _ _ ?_
   clear hK K
   go_upto_region 20 with fail
   go_cut [14] from 196 (fun s wx=>∃D B C:Nat,s=pV D 0∧Hid (VU op D B C m wx))
   case first=>
    have J:=yb g.o.op
    have I:=yb (((yg m.heap.size m).alloc (yf _) (.cells #[.nilFunc,.nilFunc] 167)).cell (p:=(aV w.heap.size 0)) (yO _ _ g.o.op) |>.trans g.o.op)
    have S:Hid (w.heap.size≠m.heap.size):=yb (by have:=yO _ _ g.o.op;show _≠_;dsimp only at this;omega)
    obtain rfl|rfl|rfl|rfl:op=3∨op=4∨op=5∨op=6:=by have:=aj.o;omega
    ·have HI:=fun B C w=>(Hk B C w).1
     unfold DW Mg JJ at HI
     go_region_held2 (fun w'=>w'.cell? (aV w.heap.size 0)=some (iV 3)) (first|exact J.o|exact I.o|exact j.o|exact ac.o _|(rw[AQ _ _ S.o,AQ _ _ S.o];exact j.o)) (first|(go_at_call 77;refine (En _).mono ?_;rintro e Z ⟨B,C,rfl,hb,hB,hC⟩;have j:=yb ((hb.cell (p:=(aV w.heap.size 0)) (yO _ _ (by first|exact J.o|exact I.o))).trans (by first|exact J.o|exact I.o));unfold DW Mg JJ;have ac:Hid (∀o:Obj,(Z.alloc o).cell? (aV w.heap.size 0)=some (iV 3)):=yb (fun o=>(((yg Z.heap.size Z).alloc (yf _) o).cell (p:=(aV w.heap.size 0)) (yO _ _ j.o)).trans j.o);have M:Hid (Below m.heap.size m Z):=yb (by first|exact (yg m.heap.size m).drew.trans hb|exact ((yg m.heap.size m).alloc (yf _) _).drew.trans (hb.mono (by simp)));have O:=yb (And.intro hB hC);(first|(have hr:=(hb.block m.heap.size (by simp)).trans (World.alloc_heap_new m _);obtain ⟨r0,r1,ap,b8⟩:=Dv hr;have HR:=yb hr;clear hr)|skip);clear hb hB hC))
     all_goals
      go_wp2
      go_meet
      case rel=>
       first
       |exact ⟨_,_,_,rfl,yb (IB M.o O.o rfl rfl)⟩
       |exact ⟨_,_,_,rfl,yb (Hl M.o HR.o O.o rfl rfl)⟩
    ·have HI:=fun B C w=>(Hk B C w).2.1
     unfold DW Mg JJ at HI
     go_region_held2 (fun w'=>w'.cell? (aV w.heap.size 0)=some (iV 4)) (first|exact J.o|exact I.o|exact j.o|exact ac.o _|(rw[AQ _ _ S.o,AQ _ _ S.o];exact j.o)) (first|(go_at_call 77;refine (En _).mono ?_;rintro e Z ⟨B,C,rfl,hb,hB,hC⟩;have j:=yb ((hb.cell (p:=(aV w.heap.size 0)) (yO _ _ (by first|exact J.o|exact I.o))).trans (by first|exact J.o|exact I.o));unfold DW Mg JJ;have ac:Hid (∀o:Obj,(Z.alloc o).cell? (aV w.heap.size 0)=some (iV 4)):=yb (fun o=>(((yg Z.heap.size Z).alloc (yf _) o).cell (p:=(aV w.heap.size 0)) (yO _ _ j.o)).trans j.o);have M:Hid (Below m.heap.size m Z):=yb (by first|exact (yg m.heap.size m).drew.trans hb|exact ((yg m.heap.size m).alloc (yf _) _).drew.trans (hb.mono (by simp)));have O:=yb (And.intro hB hC);(first|(have hr:=(hb.block m.heap.size (by simp)).trans (World.alloc_heap_new m _);obtain ⟨r0,r1,ap,b8⟩:=Dv hr;have HR:=yb hr;clear hr)|skip);clear hb hB hC))
     all_goals
      go_wp2
      go_meet
      case rel=>
       first
       |exact ⟨_,_,_,rfl,yb (IB M.o O.o rfl rfl)⟩
       |exact ⟨_,_,_,rfl,yb (Hl M.o HR.o O.o rfl rfl)⟩
    ·have HI:=fun B C w=>(Hk B C w).2.2.1
     unfold DW Mg JJ at HI
     go_region_held2 (fun w'=>w'.cell? (aV w.heap.size 0)=some (iV 5)) (first|exact J.o|exact I.o|exact j.o|exact ac.o _|(rw[AQ _ _ S.o,AQ _ _ S.o];exact j.o)) (first|(go_at_call 77;refine (En _).mono ?_;rintro e Z ⟨B,C,rfl,hb,hB,hC⟩;have j:=yb ((hb.cell (p:=(aV w.heap.size 0)) (yO _ _ (by first|exact J.o|exact I.o))).trans (by first|exact J.o|exact I.o));unfold DW Mg JJ;have ac:Hid (∀o:Obj,(Z.alloc o).cell? (aV w.heap.size 0)=some (iV 5)):=yb (fun o=>(((yg Z.heap.size Z).alloc (yf _) o).cell (p:=(aV w.heap.size 0)) (yO _ _ j.o)).trans j.o);have M:Hid (Below m.heap.size m Z):=yb (by first|exact (yg m.heap.size m).drew.trans hb|exact ((yg m.heap.size m).alloc (yf _) _).drew.trans (hb.mono (by simp)));have O:=yb (And.intro hB hC);(first|(have hr:=(hb.block m.heap.size (by simp)).trans (World.alloc_heap_new m _);obtain ⟨r0,r1,ap,b8⟩:=Dv hr;have HR:=yb hr;clear hr)|skip);clear hb hB hC))
     all_goals
      go_wp2
      go_meet
      case rel=>
       first
       |exact ⟨_,_,_,rfl,yb (IB M.o O.o rfl rfl)⟩
       |exact ⟨_,_,_,rfl,yb (Hl M.o HR.o O.o rfl rfl)⟩
    ·have HI:=fun B C w=>(Hk B C w).2.2.2
     unfold DW Mg JJ at HI
     go_region_held2 (fun w'=>w'.cell? (aV w.heap.size 0)=some (iV 6)) (first|exact J.o|exact I.o|exact j.o|exact ac.o _|(rw[AQ _ _ S.o,AQ _ _ S.o];exact j.o)) (first|(go_at_call 77;refine (En _).mono ?_;rintro e Z ⟨B,C,rfl,hb,hB,hC⟩;have j:=yb ((hb.cell (p:=(aV w.heap.size 0)) (yO _ _ (by first|exact J.o|exact I.o))).trans (by first|exact J.o|exact I.o));unfold DW Mg JJ;have ac:Hid (∀o:Obj,(Z.alloc o).cell? (aV w.heap.size 0)=some (iV 6)):=yb (fun o=>(((yg Z.heap.size Z).alloc (yf _) o).cell (p:=(aV w.heap.size 0)) (yO _ _ j.o)).trans j.o);have M:Hid (Below m.heap.size m Z):=yb (by first|exact (yg m.heap.size m).drew.trans hb|exact ((yg m.heap.size m).alloc (yf _) _).drew.trans (hb.mono (by simp)));have O:=yb (And.intro hB hC);(first|(have hr:=(hb.block m.heap.size (by simp)).trans (World.alloc_heap_new m _);obtain ⟨r0,r1,ap,b8⟩:=Dv hr;have HR:=yb hr;clear hr)|skip);clear hb hB hC))
     all_goals
      go_wp2
      go_meet
      case rel=>
       first
       |exact ⟨_,_,_,rfl,yb (IB M.o O.o rfl rfl)⟩
       |exact ⟨_,_,_,rfl,yb (Hl M.o HR.o O.o rfl rfl)⟩
   case rest=>
    obtain ⟨D,B,C,rfl,V⟩:=hcut
    have HT:=yb (g.o.up V.o.below)
    have ch:Hid (m.heap.size<=D):=yb V.o.d
    have S:Hid (D≠w.heap.size+1):=yb (by have:=(yd.1 g.o.q).1;have:=V.o.d;omega)
    clear g
    have ae:=Uc aj.o.1 aj.o.2 ⟨xl,xh,xa⟩ ⟨yl,yh,ya⟩ cl.o cn.o B C
    have ak:=yb ae
    clear ae
    generalize cp:Qz op ⟨xl,xh,xa⟩ ⟨yl,yh,ya⟩=od at*
    clear cp
    obtain ⟨⟨R,P,Q⟩,ok⟩:=od
    unfold Dm.v at ak
    dsimp only at ak i
    go_upto_region 21 with fail
    have ad:wc.heap[G]?=some (.cells #[iV xl,iV xh,iV xa,iV t,iV A,iV U] 70 (0,0)):=HT.o.x
    have aa:wc.heap[H]?=some (.cells #[iV yl,iV yh,iV ya,iV E,iV F,iV Y] 70 (0,0)):=HT.o.y
    obtain ⟨ct,cu,cc,be,bq,bb⟩:=Cg ad
    obtain ⟨cj,cr,cm,ba,bo,bi⟩:=Cg aa
    have b0:=(Dv V.o.row).1
    clear ad aa
    have b7:Hid (∀w6,Below wc.heap.size wc w6->w6.heap[w.heap.size+1]?=some (.cells j4 70 (0,0))∧JK w op ⟨⟨R,P,Q⟩,IP,0⟩ G H ⟨⟨xl,xh,xa⟩,⟨t,A⟩,U⟩ ⟨⟨yl,yh,ya⟩,⟨E,F⟩,Y⟩ (((w6.setCell (aV (w.heap.size+1) 0) (iV R)).setCell (aV (w.heap.size+1) 1) (iV P)).setCell (aV (w.heap.size+1) 2) (iV Q))∧(((w6.setCell (aV (w.heap.size+1) 0) (iV R)).setCell (aV (w.heap.size+1) 1) (iV P)).setCell (aV (w.heap.size+1) 2) (iV Q)).heap[D]?=some (.cells #[MT B C op,Oa op] 167 (0,0))):=yb (fun w6 h6=>by
     have h1:=HT.o.up h6
     have hw:=AE (w.heap.size+1) 70 [iV R,iV P,iV Q] 0 w6 [] j7 j7 h1.q rfl rfl
     refine ⟨h1.q,h1.set hw,?_⟩
     have h2:w6.heap[D]?=some (.cells #[MT B C op,Oa op] 167 (0,0)):=(h6.block _ (yd.1 V.o.row).1).trans V.o.row
     exact (hw.block D S.o).trans h2)
    go_cut [7] from 196 (fun s wx=>s=.bool ok∧Hid (JK w op ⟨⟨R,P,Q⟩,IP,0⟩ G H ⟨⟨xl,xh,xa⟩,⟨t,A⟩,U⟩ ⟨⟨yl,yh,ya⟩,⟨E,F⟩,Y⟩ wx∧wx.heap[D]?=some (.cells #[MT B C op,Oa op] 167 (0,0))))
    case first=>
     rcases ak.o with ⟨ae,ah⟩|⟨X,ae,ah⟩
     ·rw[ae] at b0
      have au:=yb ah
      clear ah
      go_wp2_with (first|(go_at_call 94;with_reducible refine (au.o _).mono ?_;rintro e w6 ⟨rfl,a7⟩;have HQ:=yb (b7.o w6 a7);obtain ⟨q0,q1,q2,q3,q4,q5⟩:=Cg HQ.o.1;have qf:=fun k=>DX (n:=k) HQ.o.1;clear a7))
      go_meet
      case rel=>exact ⟨rfl,yb HQ.o.2⟩
     ·rw[ae] at b0
      have au:=yb (ah wc V.o.b V.o.c)
      clear ah
      go_wp2_with (first|(go_at_call 103;with_reducible refine au.o.mono ?_;rintro e w6 ⟨rfl,a7⟩;have HQ:=yb (b7.o w6 a7);obtain ⟨q0,q1,q2,q3,q4,q5⟩:=Cg HQ.o.1;have qf:=fun k=>DX (n:=k) HQ.o.1;clear a7))
      go_meet
      case rel=>exact ⟨rfl,yb HQ.o.2⟩
    case rest=>
     obtain ⟨rfl,aw⟩:=hcut
     have g:=yb aw.o.1
     have bk:=yb aw.o.2
     clear aw ct cu cc be bq bb cj cr cm ba bo bi b0 b7 HT V ch ak
     have z:wc.heap[w.heap.size+1]?=some (.cells #[iV R,iV P,iV Q,iV 0,iV 0,iV 0] 70 (0,0)):=g.o.q
     have ab:=yb z
     obtain ⟨q0,q1,q2,q3,q4,q5⟩:=Cg z
     have qf:=fun k=>DX (n:=k) z
     have ad:wc.heap[G]?=some (.cells #[iV xl,iV xh,iV xa,iV t,iV A,iV U] 70 (0,0)):=g.o.x
     have aa:wc.heap[H]?=some (.cells #[iV yl,iV yh,iV ya,iV E,iV F,iV Y] 70 (0,0)):=g.o.y
     obtain ⟨-, -, -,be,bq,bb⟩:=Cg ad
     obtain ⟨-, -, -,ba,bo,bi⟩:=Cg aa
     have ci:=(Dv bk.o).2.1
     clear ad aa z
     cases ok with
     |false=>
      have hf:Hid (res=(Fj,false)):=i
      clear i
      go_wp2
      have r:=Co ab.o (iV 0) (iV 0) (iV 0) (iV 0) (iV 0) (iV 0)
      exact A3 (c:=Fj.row) rfl rfl r.row qY rfl (by kernel_rfl) ⟨by rw[hf.o];rfl,r.below g.o.below (by omega)⟩
     |true=>
      by_cases a6:U=0
      ·by_cases af:Y=0
       ·have N:=i.o
        rw[yD rfl,yq (fun h=>h a6),yq (fun h=>h af)] at N
        have HV:=Ub aj.o.1 aj.o.2 ⟨t,A⟩ ⟨E,F⟩
        unfold UU at HV
        generalize Qy op ⟨t,A⟩ ⟨E,F⟩=rr at*
        obtain ⟨⟨vn,vd⟩,ve⟩:=rr
        have hf:Hid (res=(⟨⟨R,P,Q⟩,⟨vn,vd⟩,ve⟩,true)):=yb N
        obtain ⟨id,bd,cv,ao⟩:=HV
        rw[bd] at ci
        unfold Rt.v at ao
        dsimp only at ao
        have c9:=yb ao
        subst a6 af
        clear i N ao q0 q1 q2 q3 q4 q5 qf
        go_wp2_with fail
        refine (c9.o _).mono ?_
        rintro e w6 ⟨rfl,a7⟩
        have bh:=yb (g.o.up a7)
        have al:w6.heap[w.heap.size+1]?=some (.cells #[iV R,iV P,iV Q,iV 0,iV 0,iV 0] 70 (0,0)):=bh.o.q
        have L:=yb (bh.o.set (q':=⟨⟨R,P,Q⟩,⟨vn,vd⟩,ve⟩) (AE (w.heap.size+1) _ [iV vn,iV vd,iV ve] 3 w6 [iV R,iV P,iV Q] j7 [] al rfl rfl))
        simp only[World.setCells,yw,Nat.reduceAdd] at L
        obtain ⟨q0,q1,q2,q3,q4,q5⟩:=Cg al
        have qf:=fun k=>DX (n:=k) al
        clear al a7
        go_wp2
        have r:=Co L.o.q (iV R) (iV P) (iV Q) (iV vn) (iV vd) (iV ve)
        exact A3 (c:=(⟨⟨R,P,Q⟩,⟨vn,vd⟩,ve⟩:Qn).row) rfl rfl r.row qY rfl (by kernel_rfl) ⟨by rw[hf.o];rfl,r.below L.o.below (by omega)⟩
       ·have N:=i.o
        rw[yD rfl,yq (fun h=>h a6),yD af] at N
        have hf:Hid (res=(⟨⟨R,P,Q⟩,IP,Y⟩,true)):=yb N
        have e1:(Y==0)=false:=by simpa using af
        have e2:(Y !=0)=true:=by simpa using af
        subst a6
        clear i N af
        have L:=yb (g.o.set (q':=⟨⟨R,P,Q⟩,IP,Y⟩) (AE (w.heap.size+1) _ [iV Y] 5 wc [iV R,iV P,iV Q,iV 0,iV 0] [iV 0] [] ab.o rfl rfl))
        simp only[World.setCells,yw,Nat.reduceAdd] at L
        go_wp2
        have r:=Co L.o.q (iV R) (iV P) (iV Q) (iV 0) (iV 0) (iV Y)
        exact A3 (c:=(⟨⟨R,P,Q⟩,IP,Y⟩:Qn).row) rfl rfl r.row qY rfl (by kernel_rfl) ⟨by rw[hf.o];rfl,r.below L.o.below (by omega)⟩
      ·have N:=i.o
       rw[yD rfl,yD a6] at N
       have hf:Hid (res=(⟨⟨R,P,Q⟩,IP,U⟩,true)):=yb N
       have e1:(U==0)=false:=by simpa using a6
       have e2:(U !=0)=true:=by simpa using a6
       clear i N a6
       have L:=yb (g.o.set (q':=⟨⟨R,P,Q⟩,IP,U⟩) (AE (w.heap.size+1) _ [iV U] 5 wc [iV R,iV P,iV Q,iV 0,iV 0] [iV 0] [] ab.o rfl rfl))
       simp only[World.setCells,yw,Nat.reduceAdd] at L
       go_wp2
       have r:=Co L.o.q (iV R) (iV P) (iV Q) (iV 0) (iV 0) (iV U)
       exact A3 (c:=(⟨⟨R,P,Q⟩,IP,U⟩:Qn).row) rfl rfl r.row qY rfl (by kernel_rfl) ⟨by rw[hf.o];rfl,r.below L.o.below (by omega)⟩
end Go.Proofs.YtjofgpfocadomaaGreatDoor
