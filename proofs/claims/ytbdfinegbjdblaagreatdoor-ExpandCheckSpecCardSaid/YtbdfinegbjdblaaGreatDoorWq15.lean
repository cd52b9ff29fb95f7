/- units.of: operations. -/
import Derived.Test.YtbdfinegbjdblaaGreatDoorWq0
import Derived.Test.YtbdfinegbjdblaaGreatDoorWq12
import Derived.Test.YtbdfinegbjdblaaGreatDoorWq10
import Derived.Deep.RegionHeld2
set_option maxRecDepth 100000
set_option maxHeartbeats 8000000
set_option linter.unusedSimpArgs false
namespace Go.Proofs.YtbdfinegbjdblaaGreatDoor
open Go.RowKit Go.Proofs.Tryz
structure LF (w:World) (op:Int) (q:Qn) (G H:Nat) (x y:Qn) (W:World):Prop where
 below:Below w.heap.size w W
 op:W.cell? ⟨w.heap.size,0,none⟩=some (.int .i64 op)
 q:W.heap[w.heap.size+1]?=some (.cells q.row.toArray 104 (0,0))
 x:W.heap[G]?=some (.cells x.row.toArray 104 (0,0))
 y:W.heap[H]?=some (.cells y.row.toArray 104 (0,0))
 g:w.heap.size+1 < G
 h:w.heap.size+1 < H
theorem LF.up{w:World}{op:Int}{q:Qn}{G H:Nat}{x y:Qn}{W W':World}(k:LF w op q G H x y W)(hw:Below W.heap.size W W'):LF w op q G H x y W':=by
 have h1:=(yd.1 k.x).1
 have h2:=(yd.1 k.y).1
 have h3:=(yd.1 k.q).1
 exact ⟨k.below.trans (hw.mono (by omega)),(hw.cell (p:=(aV w.heap.size 0)) (by show w.heap.size < _;omega)).trans k.op,(hw.block _ (by omega)).trans k.q,(hw.block _ (by omega)).trans k.x,(hw.block _ (by omega)).trans k.y,k.g,k.h⟩
theorem LF.set{w:World}{op:Int}{q q':Qn}{G H:Nat}{x y:Qn}{W W':World}(k:LF w op q G H x y W)(hw:H8 W W' (w.heap.size+1) q'.row 104):LF w op q' G H x y W':=by
 refine ⟨hw.below k.below (by omega),?_,hw.row,(hw.block _ (by have:=k.g;omega)).trans k.x,(hw.block _ (by have:=k.h;omega)).trans k.y,k.g,k.h⟩
 have:=k.op
 unfold World.cell? at this |-
 rw[hw.block _ (by show w.heap.size≠_;omega)];exact this
theorem LF.drew{w:World}{op:Int}{q:Qn}{G H:Nat}{x y:Qn}{W:World}(k:LF w op q G H x y W):LF w op q G H x y W.drew:=⟨k.below.drew,k.op,k.q,k.x,k.y,k.g,k.h⟩
structure aR (op:Int) (D B C:Nat) (W W':World):Prop where
 below:Below W.heap.size W W'
 row:W'.heap[D]?=some (.cells #[Pl B C op,QP op] 167 (0,0))
 b:W'.cell? ⟨B,0,none⟩=some (.int .i64 1)
 c:W'.cell? ⟨C,0,none⟩=some (.int .i64 (-1))
 d:W.heap.size<=D
theorem Ji(B C:Nat)(w:World):(Instr.index 168 (.agg (EJ B C).toArray) (.int .i64 3)).run prog w=.ok (.agg #[.func (.func 103) #[] #[],.func (.func 104) #[] #[]]) w/\(Instr.index 168 (.agg (EJ B C).toArray) (.int .i64 4)).run prog w=.ok (.agg #[.func (.func 103) #[] #[],.func (.func 105) #[] #[]]) w/\(Instr.index 168 (.agg (EJ B C).toArray) (.int .i64 5)).run prog w=.ok (.agg #[.func (.func 129) #[] #[.pointer (some ⟨B,0,none⟩)],.func (.func 107) #[] #[]]) w/\(Instr.index 168 (.agg (EJ B C).toArray) (.int .i64 6)).run prog w=.ok (.agg #[.func (.func 129) #[] #[.pointer (some ⟨C,0,none⟩)],.func (.func 108) #[] #[]]) w:=by
 refine ⟨?_,?_,?_,?_⟩<;>rfl
theorem Bp(W:World){b c o a:Nat}(v:Value)(h:b≠c):(W.setCell ⟨c,o,none⟩ v).cell? ⟨b,a,none⟩=W.cell? ⟨b,a,none⟩:=by
 unfold World.cell?
 rw[show (W.setCell (aV c o) v).heap[b]?=W.heap[b]? from qd W (aV c o) v b h]
theorem Km{op:Int}{W a:World}{B C:Nat}{x y:Value}(h:Below W.heap.size W a)(hb:a.cell? ⟨B,0,none⟩=some (.int .i64 1)/\a.cell? ⟨C,0,none⟩=some (.int .i64 (-1)))(c:x=Pl B C op)(d:y=QP op):aR op a.heap.size B C W (a.alloc (.cells #[x,y] 167)):=by
 subst c d
 have b:=(yg a.heap.size a).alloc (yi _) (.cells #[Pl B C op,QP op] 167)
 exact ⟨h.alloc h.size _,World.alloc_heap_new _ _,(b.cell (p:=(aV B 0)) (yU _ _ hb.1)).trans hb.1,(b.cell (p:=(aV C 0)) (yU _ _ hb.2)).trans hb.2,h.size⟩
theorem Jj{op:Int}{W a:World}{B C:Nat}{x y:Value}(h:Below W.heap.size W a)(hr:a.heap[W.heap.size]?=some (.cells #[.nilFunc,.nilFunc] 167 (0,0)))(hb:a.cell? ⟨B,0,none⟩=some (.int .i64 1)/\a.cell? ⟨C,0,none⟩=some (.int .i64 (-1)))(b:x=Pl B C op)(c:y=QP op):
  aR op W.heap.size B C W ((a.setCell ⟨W.heap.size,0,none⟩ x).setCell ⟨W.heap.size,1,none⟩ y):=by
 subst b c
 have h0:=(FB hr).1
 have n1:B≠W.heap.size:=λe=>by rw[e] at hb;rw[h0] at hb;cases hb.1
 have n2:C≠W.heap.size:=λe=>by rw[e] at hb;rw[h0] at hb;cases hb.2
 refine ⟨Ah (Ah h (yi _) _) (yi _) _,E9 (DS hr),?_,?_,yi _⟩
 ·rw[Bp _ _ n1,Bp _ _ n1];exact hb.1
 rw[Bp _ _ n2,Bp _ _ n2];exact hb.2
theorem XQ{op:Int}(h3:3<=op)(c:op<=6)(a b:Rt):∃id:FuncId,QP op=.func (.func id) #[] #[]/\(∀args W,(callFunc id args).run prog W=.ok (.enter id args) W)/\∀W,Calls prog id #[a.v,b.v] W (YW op a b W):=by
 obtain rfl|rfl|rfl|rfl:op=3\/op=4\/op=5\/op=6:=by omega
 ·exact ⟨104,rfl,λ_ _=>rfl,λW=>(P7 a b W).1⟩
 ·exact ⟨105,rfl,λ_ _=>rfl,λW=>(P7 a b W).2.1⟩
 ·exact ⟨107,rfl,λ_ _=>rfl,λW=>(P7 a b W).2.2.1⟩
 exact ⟨108,rfl,λ_ _=>rfl,λW=>(P7 a b W).2.2.2⟩
theorem XR{op:Int}(h3:3<=op)(d:op<=6)(a b:Dm)(c:Ih a=true)(hb:Ih b=true)(B C:Nat):
  (Pl B C op=.func (.func 103) #[] #[]/\∀W,Calls prog 103 #[a.v,b.v] W λe w'=>e=.returned (.tuple #[(To op a b).1.v,.bool (To op a b).2])/\Below W.heap.size W w')\/
  ∃X,Pl B C op=.func (.func 129) #[] #[.pointer (some ⟨X,0,none⟩)]/\∀W,W.cell? ⟨B,0,none⟩=some (.int .i64 1)->W.cell? ⟨C,0,none⟩=some (.int .i64 (-1))->Calls prog 129 #[a.v,b.v,.pointer (some ⟨X,0,none⟩)] W λe w'=>e=.returned (.tuple #[(To op a b).1.v,.bool (To op a b).2])/\Below W.heap.size W w':=by
 obtain rfl|rfl|rfl|rfl:op=3\/op=4\/op=5\/op=6:=by omega
 ·exact .inl ⟨rfl,λW=>MD a b W⟩
 ·exact .inl ⟨rfl,λW=>MD a b W⟩
 ·exact .inr ⟨B,rfl,λW h1 _=>Qv 5 1 (.inl ⟨rfl,rfl⟩) a b c hb B W h1⟩
 exact .inr ⟨C,rfl,λW _ h2=>Qv 6 (-1) (.inr ⟨rfl,rfl⟩) a b c hb C W h2⟩
theorem XS(f:List Kn)(h:AA)(l:Nat)(hl:l<=8)(IH:∀e cs W,GU W->RG W h f->Bm (λb=>b < W.heap.size) W e cs->Calls prog 41 #[h.v,.agg cs.toArray,.int .i64 l] W (QQ (Gc f l e) W))(hD:∀e,Ih (Gc f l e).1.dim=true)
 (op:Int)(rn:ByteArray)(a:Option Addr)(cap:Nat)(x y:Ex)(w:World)(hg:GU w)(hk:RG w h f)(h3:3<=op)(h6:op<=6)(hz:Dw rn 0=true)(hr:Ez (λb=>b < w.heap.size) w a 0 [x,y]):
  Calls prog 41 #[h.v,.agg #[.int .i64 op,.int .i64 0,.int .i64 0,.string rn,.int .i64 0,.slice a 2 cap],.int .i64 ((l:Int)+1)] w (QQ (Yz op (Gc f l x) (Gc f l y)) w):=by
 have HW:=yb (PH.new w [iV op,iV 0,iV 0,.string rn,iV 0,.slice a 2 cap])
 have hq:=MM rn 0
 have c9:prog.eqGuardType prog.depth 37=false:=by kernel_rfl
 have p1:(op==1)=false:=by simp<;>omega
 have p2:(op==2)=false:=by simp<;>omega
 have p3:decide (op < 3)=false:=by simp<;>omega
 have p4:decide (6 < op)=false:=by simp<;>omega
 have p5:((l:Int)+1==0)=false:=by simp<;>omega
 have p6:wrap64 ((l:Int)+1 - 1)=(l:Int):=by rw[Ay (by omega)];omega
 have p7:wrap64 (l:Int)=(l:Int):=Ay (by omega)
 have HG:=yb hg
 have HK:=yb hk
 have ag:=yb (And.intro h3 h6)
 have cw:=FP hr 0 (by simp)
 have co:=FP hr 1 (by simp)
 obtain ⟨b,o,cx,rfl,be,b8,am⟩:=cw
 obtain ⟨b',o',cy,aw,bk,au,an⟩:=co
 injection aw with aw;injection aw with e1 e2 e3;subst e1;subst e2
 simp only[qC,yy,qN,qS,qA,List.getElem_cons_succ] at b8 am au an
 obtain ⟨ax,bm,rfl,cd,cn,a8⟩:=am.cells
 obtain ⟨ay,bv,rfl,ci,cp,ab⟩:=an.cells
 have HX:Hid (∀W,Below w.heap.size w W->Calls prog 41 #[h.v,.agg #[iV x.op,iV x.n,iV x.u,.string x.rn,iV x.ri,.slice ax x.args.length bm],iV l] W (QQ (Gc f l x) W)):=yb (λW hW=>IH x _ W (hg.up hW) (hk.up hW) (am.same (λb hb=>yx hb hW.size) (λb hb=>hW.block b hb)))
 have HY:Hid (∀W,Below w.heap.size w W->Calls prog 41 #[h.v,.agg #[iV y.op,iV y.n,iV y.u,.string y.rn,iV y.ri,.slice ay y.args.length bv],iV l] W (QQ (Gc f l y) W)):=yb (λW hW=>IH y _ W (hg.up hW) (hk.up hW) (an.same (λb hb=>yx hb hW.size) (λb hb=>hW.block b hb)))
 have bj:=yb b8
 have bu:=yb au
 have aq:=yb be
 have hdx:=hD x
 have bd:=hD y
 generalize Gc f l x=qx at*
 generalize Gc f l y=qy at*
 obtain ⟨⟨⟨xl,xh,xa⟩,⟨t,A⟩,T⟩,xo⟩:=qx
 obtain ⟨⟨⟨yl,yh,ya⟩,⟨F,E⟩,ye⟩,yo⟩:=qy
 have cm:=yb hdx
 have ch:=yb bd
 obtain ⟨V,i⟩:∃V,V=Yz op (⟨⟨xl,xh,xa⟩,⟨t,A⟩,T⟩,xo) (⟨⟨yl,yh,ya⟩,⟨F,E⟩,ye⟩,yo):=⟨_,rfl⟩
 rw[<-i]
 have U:=yb i
 unfold QQ Qn.val at HX HY
 dsimp only at HX HY
 clear i hdx bd b8 au am an hg hk IH hD hr cd cn a8 ci cp ab h3 h6 be bk hl e3
 obtain ⟨ha,hn,hc⟩:=h
 unfold AA.v at*
 dsimp only at*
 go_enter func41,ntmps41
 refine Ai λK hK=>?_
 go_wp2
 refine hK.o _ _ ?_
 clear hK
 generalize (w.alloc (.cells #[iV op,iV 0,iV 0,.string rn,iV 0,.slice (some (aV b o)) 2 cap] 40)).alloc (.cells jE 104)=W at HW |-
 obtain ⟨x0,x1,x2,x3,x4,x5⟩:=DX HW.o.x
 refine Ai λK hK=>?_
 go_wp2
 refine hK.o _ _ ?_
 clear hK K p1 p2 p3 p4 p5 hq c9 hz x1 x2 x3 x4
 refine Ai λK hK=>?_
 have ad:=yb HW.o.below
 have cb:=BP (A8 bj.o (ad.o.block b aq.o))
 obtain ⟨a0,a1,a2,a3,a4,a5⟩:=cb
 go_wp2_with (first|(go_at_call 41;with_reducible refine (HX.o _ ad.o).mono ?_;rintro e w2 ⟨rfl,bn⟩;have b4:=yb bn;clear bn))
 refine hK.o _ _ ?_
 clear hK K a0 a1 a2 a3 a4 a5 x0 x5
 have bt:=World.alloc_heap_new w2 (.cells #[iV xl,iV xh,iV xa,iV t,iV A,iV T] 104)
 have aj:=yb bt
 have ah:=yb ((HW.o.up b4.o).up ((yg _ w2).alloc (yi _) (.cells #[iV xl,iV xh,iV xa,iV t,iV A,iV T] 104)))
 have b7:Hid (w.heap.size+1 < w2.heap.size):=yb (HW.o.up b4.o).lt
 clear bt HW ad b4
 generalize w2.alloc (.cells #[iV xl,iV xh,iV xa,iV t,iV A,iV T] 104)=W2 at aj ah |-
 generalize w2.heap.size=G at aj b7 |-
 refine Ai λK hK=>?_
 have ad:=yb ah.o.below
 have ck:=BP (A8 bu.o (ad.o.block b aq.o))
 obtain ⟨a0,a1,a2,a3,a4,a5⟩:=ck
 have x5:=(DX ah.o.x).2.2.2.2.2
 go_wp2_with (first|(go_at_call 41;with_reducible refine (HY.o _ ad.o).mono ?_;rintro e w3 ⟨rfl,c8⟩;have az:=yb c8;clear c8))
 refine hK.o _ _ ?_
 clear hK K a0 a1 a2 a3 a4 a5 x5 p6 p7
 have g:Hid (LF w op Ge G w3.heap.size ⟨⟨xl,xh,xa⟩,⟨t,A⟩,T⟩ ⟨⟨yl,yh,ya⟩,⟨F,E⟩,ye⟩ (w3.alloc (.cells #[iV yl,iV yh,iV ya,iV F,iV E,iV ye] 104))):=yb (by
  have h1:=ah.o.up az.o
  have h2:=h1.lt
  have h3:w3.heap[G]?=some (.cells #[iV xl,iV xh,iV xa,iV t,iV A,iV T] 104 (0,0)):=(az.o.block _ (yd.1 aj.o).1).trans aj.o
  have h4:=(yd.1 h3).1
  have h5:=h1.up ((yg _ w3).alloc (yi _) (.cells #[iV yl,iV yh,iV ya,iV F,iV E,iV ye] 104))
  exact ⟨h5.below,(DX h5.x).1,h5.q,(yp _ _ _ h4).trans h3,World.alloc_heap_new _ _,b7.o,h2⟩)
 clear ad az ah aj b7
 generalize w3.alloc (.cells #[iV yl,iV yh,iV ya,iV F,iV E,iV ye] 104)=m at g |-
 generalize w3.heap.size=H at g |-
 clear HX HY bj bu aq HK HG
 cases xo with
 |false=>
  have hf:Hid (V=(Ge,false)):=U
  have z:m.heap[w.heap.size+1]?=some (.cells jE 104 (0,0)):=g.o.q
  have ac:=yb z
  obtain ⟨q0,q1,q2,q3,q4,q5⟩:=DX z
  have qf:=λk=>DO (n:=k) z
  clear z U
  refine Ai λK hK=>?_
  clear hK
  go_wp2
  have r:=D8 ac.o (iV 0) (iV 0) (iV 0) (iV 0) (iV 0) (iV 0)
  exact Ab (c:=Ge.row) rfl rfl r.row qV rfl (by kernel_rfl) ⟨by rw[hf.o];rfl,r.below g.o.below (by omega)⟩
 |true=>
  cases yo with
  |false=>
   have hf:Hid (V=(Ge,false)):=U
   have z:m.heap[w.heap.size+1]?=some (.cells jE 104 (0,0)):=g.o.q
   have ac:=yb z
   obtain ⟨q0,q1,q2,q3,q4,q5⟩:=DX z
   have qf:=λk=>DO (n:=k) z
   clear z U
   refine Ai λK hK=>?_
   clear hK
   go_wp2
   have r:=D8 ac.o (iV 0) (iV 0) (iV 0) (iV 0) (iV 0) (iV 0)
   exact Ab (c:=Ge.row) rfl rfl r.row qV rfl (by kernel_rfl) ⟨by rw[hf.o];rfl,r.below g.o.below (by omega)⟩
  |true=>
   have i:Hid (V=(let d:=To op ⟨xl,xh,xa⟩ ⟨yl,yh,ya⟩
    if d.2=true then (if T≠0 then (⟨d.1,Ja,T⟩,true) else if ye≠0 then (⟨d.1,Ja,ye⟩,true) else (⟨d.1,(RF op ⟨t,A⟩ ⟨F,E⟩).1,(RF op ⟨t,A⟩ ⟨F,E⟩).2⟩,true)) else (Ge,false))):=yb U.o
   clear U
   refine Ai λK hK=>?_
   go_wp2
   refine hK.o _ _ ?_
   clear hK K
   go_upto_region 20 with fail
   go_cut [14] from 196 (λs wx=>∃D B C:Nat,s=pV D 0/\Hid (aR op D B C m wx))
   case first=>
    have I:=yb g.o.op
    have J:=yb (((yg m.heap.size m).alloc (yi _) (.cells #[.nilFunc,.nilFunc] 167)).cell (p:=(aV w.heap.size 0)) (yU _ _ g.o.op) |>.trans g.o.op)
    have S:Hid (w.heap.size≠m.heap.size):=yb (by have:=yU _ _ g.o.op;show _≠_;dsimp only at this;omega)
    obtain rfl|rfl|rfl|rfl:op=3\/op=4\/op=5\/op=6:=by have:=ag.o;omega
    ·have HI:=λB C w=>(Ji B C w).1
     unfold EJ OD LD at HI
     go_region_held2 (λw'=>w'.cell? (aV w.heap.size 0)=some (iV 3)) (first|exact I.o|exact J.o|exact j.o|exact aa.o _|(rw[Bp _ _ S.o,Bp _ _ S.o];exact j.o)) (first|(go_at_call 69;refine (Fe _).mono ?_;rintro e Y ⟨B,C,rfl,hb,hB,hC⟩;have j:=yb ((hb.cell (p:=(aV w.heap.size 0)) (yU _ _ (by first|exact I.o|exact J.o))).trans (by first|exact I.o|exact J.o));unfold EJ OD LD;have aa:Hid (∀o:Obj,(Y.alloc o).cell? (aV w.heap.size 0)=some (iV 3)):=yb (λo=>(((yg Y.heap.size Y).alloc (yi _) o).cell (p:=(aV w.heap.size 0)) (yU _ _ j.o)).trans j.o);have M:Hid (Below m.heap.size m Y):=yb (by first|exact (yg m.heap.size m).drew.trans hb|exact ((yg m.heap.size m).alloc (yi _) _).drew.trans (hb.mono (by simp)));have N:=yb (And.intro hB hC);(first|(have hr:=(hb.block m.heap.size (by simp)).trans (World.alloc_heap_new m _);obtain ⟨r0,r1,ap,b5⟩:=FB hr;have HR:=yb hr;clear hr)|skip);clear hb hB hC))
     all_goals
      go_wp2
      go_meet
      first
      |exact ⟨_,_,_,rfl,yb (Km M.o N.o rfl rfl)⟩
      |exact ⟨_,_,_,rfl,yb (Jj M.o HR.o N.o rfl rfl)⟩
    ·have HI:=λB C w=>(Ji B C w).2.1
     unfold EJ OD LD at HI
     go_region_held2 (λw'=>w'.cell? (aV w.heap.size 0)=some (iV 4)) (first|exact I.o|exact J.o|exact j.o|exact aa.o _|(rw[Bp _ _ S.o,Bp _ _ S.o];exact j.o)) (first|(go_at_call 69;refine (Fe _).mono ?_;rintro e Y ⟨B,C,rfl,hb,hB,hC⟩;have j:=yb ((hb.cell (p:=(aV w.heap.size 0)) (yU _ _ (by first|exact I.o|exact J.o))).trans (by first|exact I.o|exact J.o));unfold EJ OD LD;have aa:Hid (∀o:Obj,(Y.alloc o).cell? (aV w.heap.size 0)=some (iV 4)):=yb (λo=>(((yg Y.heap.size Y).alloc (yi _) o).cell (p:=(aV w.heap.size 0)) (yU _ _ j.o)).trans j.o);have M:Hid (Below m.heap.size m Y):=yb (by first|exact (yg m.heap.size m).drew.trans hb|exact ((yg m.heap.size m).alloc (yi _) _).drew.trans (hb.mono (by simp)));have N:=yb (And.intro hB hC);(first|(have hr:=(hb.block m.heap.size (by simp)).trans (World.alloc_heap_new m _);obtain ⟨r0,r1,ap,b5⟩:=FB hr;have HR:=yb hr;clear hr)|skip);clear hb hB hC))
     all_goals
      go_wp2
      go_meet
      first
      |exact ⟨_,_,_,rfl,yb (Km M.o N.o rfl rfl)⟩
      |exact ⟨_,_,_,rfl,yb (Jj M.o HR.o N.o rfl rfl)⟩
    ·have HI:=λB C w=>(Ji B C w).2.2.1
     unfold EJ OD LD at HI
     go_region_held2 (λw'=>w'.cell? (aV w.heap.size 0)=some (iV 5)) (first|exact I.o|exact J.o|exact j.o|exact aa.o _|(rw[Bp _ _ S.o,Bp _ _ S.o];exact j.o)) (first|(go_at_call 69;refine (Fe _).mono ?_;rintro e Y ⟨B,C,rfl,hb,hB,hC⟩;have j:=yb ((hb.cell (p:=(aV w.heap.size 0)) (yU _ _ (by first|exact I.o|exact J.o))).trans (by first|exact I.o|exact J.o));unfold EJ OD LD;have aa:Hid (∀o:Obj,(Y.alloc o).cell? (aV w.heap.size 0)=some (iV 5)):=yb (λo=>(((yg Y.heap.size Y).alloc (yi _) o).cell (p:=(aV w.heap.size 0)) (yU _ _ j.o)).trans j.o);have M:Hid (Below m.heap.size m Y):=yb (by first|exact (yg m.heap.size m).drew.trans hb|exact ((yg m.heap.size m).alloc (yi _) _).drew.trans (hb.mono (by simp)));have N:=yb (And.intro hB hC);(first|(have hr:=(hb.block m.heap.size (by simp)).trans (World.alloc_heap_new m _);obtain ⟨r0,r1,ap,b5⟩:=FB hr;have HR:=yb hr;clear hr)|skip);clear hb hB hC))
     all_goals
      go_wp2
      go_meet
      first
      |exact ⟨_,_,_,rfl,yb (Km M.o N.o rfl rfl)⟩
      |exact ⟨_,_,_,rfl,yb (Jj M.o HR.o N.o rfl rfl)⟩
    have HI:=λB C w=>(Ji B C w).2.2.2
    unfold EJ OD LD at HI
    go_region_held2 (λw'=>w'.cell? (aV w.heap.size 0)=some (iV 6)) (first|exact I.o|exact J.o|exact j.o|exact aa.o _|(rw[Bp _ _ S.o,Bp _ _ S.o];exact j.o)) (first|(go_at_call 69;refine (Fe _).mono ?_;rintro e Y ⟨B,C,rfl,hb,hB,hC⟩;have j:=yb ((hb.cell (p:=(aV w.heap.size 0)) (yU _ _ (by first|exact I.o|exact J.o))).trans (by first|exact I.o|exact J.o));unfold EJ OD LD;have aa:Hid (∀o:Obj,(Y.alloc o).cell? (aV w.heap.size 0)=some (iV 6)):=yb (λo=>(((yg Y.heap.size Y).alloc (yi _) o).cell (p:=(aV w.heap.size 0)) (yU _ _ j.o)).trans j.o);have M:Hid (Below m.heap.size m Y):=yb (by first|exact (yg m.heap.size m).drew.trans hb|exact ((yg m.heap.size m).alloc (yi _) _).drew.trans (hb.mono (by simp)));have N:=yb (And.intro hB hC);(first|(have hr:=(hb.block m.heap.size (by simp)).trans (World.alloc_heap_new m _);obtain ⟨r0,r1,ap,b5⟩:=FB hr;have HR:=yb hr;clear hr)|skip);clear hb hB hC))
    all_goals
     go_wp2
     go_meet
     first
     |exact ⟨_,_,_,rfl,yb (Km M.o N.o rfl rfl)⟩
     |exact ⟨_,_,_,rfl,yb (Jj M.o HR.o N.o rfl rfl)⟩
   obtain ⟨D,B,C,rfl,Z⟩:=hcut
   have HT:=yb (g.o.up Z.o.below)
   have ca:Hid (m.heap.size<=D):=yb Z.o.d
   have S:Hid (D≠w.heap.size+1):=yb (by have:=(yd.1 g.o.q).1;have:=Z.o.d;omega)
   clear g
   have af:=XR ag.o.1 ag.o.2 ⟨xl,xh,xa⟩ ⟨yl,yh,ya⟩ cm.o ch.o B C
   have ak:=yb af
   clear af
   generalize ce:To op ⟨xl,xh,xa⟩ ⟨yl,yh,ya⟩=od at*
   clear ce
   obtain ⟨⟨R,P,Q⟩,ok⟩:=od
   unfold Dm.v at ak
   dsimp only at ak i
   go_upto_region 21 with fail
   have a8:wc.heap[G]?=some (.cells #[iV xl,iV xh,iV xa,iV t,iV A,iV T] 104 (0,0)):=HT.o.x
   have ab:wc.heap[H]?=some (.cells #[iV yl,iV yh,iV ya,iV F,iV E,iV ye] 104 (0,0)):=HT.o.y
   obtain ⟨cv,cg,cf,bp,ba,bo⟩:=DX a8
   obtain ⟨cq,cr,cc,bw,bg,bb⟩:=DX ab
   have av:=(FB Z.o.row).1
   clear a8 ab
   have b3:Hid (∀w6,Below wc.heap.size wc w6->w6.heap[w.heap.size+1]?=some (.cells jE 104 (0,0))/\LF w op ⟨⟨R,P,Q⟩,Ja,0⟩ G H ⟨⟨xl,xh,xa⟩,⟨t,A⟩,T⟩ ⟨⟨yl,yh,ya⟩,⟨F,E⟩,ye⟩ (((w6.setCell (aV (w.heap.size+1) 0) (iV R)).setCell (aV (w.heap.size+1) 1) (iV P)).setCell (aV (w.heap.size+1) 2) (iV Q))/\(((w6.setCell (aV (w.heap.size+1) 0) (iV R)).setCell (aV (w.heap.size+1) 1) (iV P)).setCell (aV (w.heap.size+1) 2) (iV Q)).heap[D]?=some (.cells #[Pl B C op,QP op] 167 (0,0))):=yb (λw6 h6=>by
    have h1:=HT.o.up h6
    have hw:=Ca (w.heap.size+1) 104 [iV R,iV P,iV Q] 0 w6 [] jI jI h1.q rfl rfl
    refine ⟨h1.q,h1.set hw,?_⟩
    have h2:w6.heap[D]?=some (.cells #[Pl B C op,QP op] 167 (0,0)):=(h6.block _ (yd.1 Z.o.row).1).trans Z.o.row
    exact (hw.block D S.o).trans h2)
   go_cut [7] from 196 (λs wx=>s=.bool ok/\Hid (LF w op ⟨⟨R,P,Q⟩,Ja,0⟩ G H ⟨⟨xl,xh,xa⟩,⟨t,A⟩,T⟩ ⟨⟨yl,yh,ya⟩,⟨F,E⟩,ye⟩ wx/\wx.heap[D]?=some (.cells #[Pl B C op,QP op] 167 (0,0))))
   case first=>
    rcases ak.o with ⟨af,ai⟩|⟨X,af,ai⟩
    ·rw[af] at av
     have b9:=yb ai
     clear ai
     go_wp2_with (first|(go_at_call 103;with_reducible refine (b9.o _).mono ?_;rintro e w6 ⟨rfl,a7⟩;have HQ:=yb (b3.o w6 a7);obtain ⟨q0,q1,q2,q3,q4,q5⟩:=DX HQ.o.1;have qf:=λk=>DO (n:=k) HQ.o.1;clear a7))
     go_meet
     exact ⟨rfl,yb HQ.o.2⟩
    rw[af] at av
    have b9:=yb (ai wc Z.o.b Z.o.c)
    clear ai
    go_wp2_with (first|(go_at_call 129;with_reducible refine b9.o.mono ?_;rintro e w6 ⟨rfl,a7⟩;have HQ:=yb (b3.o w6 a7);obtain ⟨q0,q1,q2,q3,q4,q5⟩:=DX HQ.o.1;have qf:=λk=>DO (n:=k) HQ.o.1;clear a7))
    go_meet
    exact ⟨rfl,yb HQ.o.2⟩
   obtain ⟨rfl,b0⟩:=hcut
   have g:=yb b0.o.1
   have bi:=yb b0.o.2
   clear b0 cv cg cf bp ba bo cq cr cc bw bg bb av b3 HT Z ca ak
   have z:wc.heap[w.heap.size+1]?=some (.cells #[iV R,iV P,iV Q,iV 0,iV 0,iV 0] 104 (0,0)):=g.o.q
   have ac:=yb z
   obtain ⟨q0,q1,q2,q3,q4,q5⟩:=DX z
   have qf:=λk=>DO (n:=k) z
   have a8:wc.heap[G]?=some (.cells #[iV xl,iV xh,iV xa,iV t,iV A,iV T] 104 (0,0)):=g.o.x
   have ab:wc.heap[H]?=some (.cells #[iV yl,iV yh,iV ya,iV F,iV E,iV ye] 104 (0,0)):=g.o.y
   obtain ⟨-, -, -,bp,ba,bo⟩:=DX a8
   obtain ⟨-, -, -,bw,bg,bb⟩:=DX ab
   have cl:=(FB bi.o).2.1
   clear a8 ab z
   cases ok with
   |false=>
    have hf:Hid (V=(Ge,false)):=i
    clear i
    go_wp2
    have r:=D8 ac.o (iV 0) (iV 0) (iV 0) (iV 0) (iV 0) (iV 0)
    exact Ab (c:=Ge.row) rfl rfl r.row qV rfl (by kernel_rfl) ⟨by rw[hf.o];rfl,r.below g.o.below (by omega)⟩
   |true=>
    by_cases a6:T=0
    ·by_cases ae:ye=0
     ·have O:=i.o
      rw[yz rfl,ym (λh=>h a6),ym (λh=>h ae)] at O
      have HV:=XQ ag.o.1 ag.o.2 ⟨t,A⟩ ⟨F,E⟩
      unfold YW at HV
      generalize RF op ⟨t,A⟩ ⟨F,E⟩=rr at*
      obtain ⟨⟨vn,vd⟩,ve⟩:=rr
      have hf:Hid (V=(⟨⟨R,P,Q⟩,⟨vn,vd⟩,ve⟩,true)):=yb O
      obtain ⟨id,bq,cz,al⟩:=HV
      rw[bq] at cl
      unfold Rt.v at al
      dsimp only at al
      have cj:=yb al
      subst a6 ae
      clear i O al q0 q1 q2 q3 q4 q5 qf
      go_wp2_with fail
      refine (cj.o _).mono ?_
      rintro e w6 ⟨rfl,a7⟩
      have bh:=yb (g.o.up a7)
      have ao:w6.heap[w.heap.size+1]?=some (.cells #[iV R,iV P,iV Q,iV 0,iV 0,iV 0] 104 (0,0)):=bh.o.q
      have L:=yb (bh.o.set (q':=⟨⟨R,P,Q⟩,⟨vn,vd⟩,ve⟩) (Ca (w.heap.size+1) _ [iV vn,iV vd,iV ve] 3 w6 [iV R,iV P,iV Q] jI [] ao rfl rfl))
      simp only[World.setCells,yy,Nat.reduceAdd] at L
      obtain ⟨q0,q1,q2,q3,q4,q5⟩:=DX ao
      have qf:=λk=>DO (n:=k) ao
      clear ao a7
      go_wp2
      have r:=D8 L.o.q (iV R) (iV P) (iV Q) (iV vn) (iV vd) (iV ve)
      exact Ab (c:=(⟨⟨R,P,Q⟩,⟨vn,vd⟩,ve⟩:Qn).row) rfl rfl r.row qV rfl (by kernel_rfl) ⟨by rw[hf.o];rfl,r.below L.o.below (by omega)⟩
     have O:=i.o
     rw[yz rfl,ym (λh=>h a6),yz ae] at O
     have hf:Hid (V=(⟨⟨R,P,Q⟩,Ja,ye⟩,true)):=yb O
     have e1:(ye==0)=false:=by simpa using ae
     have e2:(ye !=0)=true:=by simpa using ae
     subst a6
     clear i O ae
     have L:=yb (g.o.set (q':=⟨⟨R,P,Q⟩,Ja,ye⟩) (Ca (w.heap.size+1) _ [iV ye] 5 wc [iV R,iV P,iV Q,iV 0,iV 0] [iV 0] [] ac.o rfl rfl))
     simp only[World.setCells,yy,Nat.reduceAdd] at L
     go_wp2
     have r:=D8 L.o.q (iV R) (iV P) (iV Q) (iV 0) (iV 0) (iV ye)
     exact Ab (c:=(⟨⟨R,P,Q⟩,Ja,ye⟩:Qn).row) rfl rfl r.row qV rfl (by kernel_rfl) ⟨by rw[hf.o];rfl,r.below L.o.below (by omega)⟩
    have O:=i.o
    rw[yz rfl,yz a6] at O
    have hf:Hid (V=(⟨⟨R,P,Q⟩,Ja,T⟩,true)):=yb O
    have e1:(T==0)=false:=by simpa using a6
    have e2:(T !=0)=true:=by simpa using a6
    clear i O a6
    have L:=yb (g.o.set (q':=⟨⟨R,P,Q⟩,Ja,T⟩) (Ca (w.heap.size+1) _ [iV T] 5 wc [iV R,iV P,iV Q,iV 0,iV 0] [iV 0] [] ac.o rfl rfl))
    simp only[World.setCells,yy,Nat.reduceAdd] at L
    go_wp2
    have r:=D8 L.o.q (iV R) (iV P) (iV Q) (iV 0) (iV 0) (iV T)
    exact Ab (c:=(⟨⟨R,P,Q⟩,Ja,T⟩:Qn).row) rfl rfl r.row qV rfl (by kernel_rfl) ⟨by rw[hf.o];rfl,r.below L.o.below (by omega)⟩
end Go.Proofs.YtbdfinegbjdblaaGreatDoor
