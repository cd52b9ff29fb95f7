/- expand.declared (printed by gen_kn.py). -/
import Derived.Test.YtbdfinegbjdblaaGreatDoorWq0
import Derived.Test.YtbdfinegbjdblaaGreatDoorWq16
import Derived.Test.YtbdfinegbjdblaaGreatDoorWq9
set_option maxRecDepth 5000
set_option maxHeartbeats 8000000
set_option linter.unusedSimpArgs false
namespace Go.Proofs.YtbdfinegbjdblaaGreatDoor
open Go.RowKit
theorem SG{W:World}{Cb Rb:Nat}{v:Rt}{r:List Rt}(hd:v.d<=1)(h:Hb W Cb Rb (v::r))(b:Rb≠Cb)(a:Rb < W.heap.size):Calls Tryz.prog 59 #[.pointer (some ⟨Cb,0,none⟩)] W λe w'=>e=.returned (.int .i64 v.n)/\Hb w' Cb Rb r/\CJ Cb W.heap.size W w':=by
 have:=MP h b a
 unfold XU at this
 simpa only[yz hd] using this
theorem UQ{W:World}{Cb Rb:Nat}{v:Rt}{r:List Rt}(hd:1 < v.d)(h:Hb W Cb Rb (v::r))(b:Rb≠Cb)(a:Rb < W.heap.size):Calls Tryz.prog 59 #[.pointer (some ⟨Cb,0,none⟩)] W λe w'=>e=.panicked (It 190)/\CJ Cb W.heap.size W w':=by
 have:=MP h b a
 unfold XU at this
 simpa only[ym (Int.not_le.2 hd)] using this
structure Ik (w:World) (Cb Rb:Nat) (vs:List Rt) (W:World):Prop where
 cur:Hb W Cb Rb vs
 bel:CJ Cb w.heap.size w W
 ne:Rb≠Cb
 lt:Cb < w.heap.size/\Rb < w.heap.size
theorem Ik.up{w W W':World}{Cb Rb:Nat}{vs:List Rt}(h:Ik w Cb Rb vs W)(hb:Below W.heap.size W W'):Ik w Cb Rb vs W':=
 ⟨h.cur.up hb (yx h.lt.2 h.bel.size),h.bel.trans (CJ.of (hb.mono h.bel.size)),h.ne,h.lt⟩
theorem Hb.same{W W':World}{Cb Rb:Nat}{vs:List Rt}(h:Hb W Cb Rb vs)(h1:W'.heap[Cb]?=W.heap[Cb]?)(h2:W'.heap[Rb]?=W.heap[Rb]?):Hb W' Cb Rb vs:=by
 obtain ⟨a,c,e,d,f⟩:=h
 refine ⟨a,c,h1.trans e,d,λhr=>?_⟩
 obtain ⟨o,b,g⟩:=f hr
 exact ⟨o,b,λi hi=>A8 (g i hi) h2⟩
theorem Ik.up2{w W W':World}{Cb Rb:Nat}{vs:List Rt}(h:Ik w Cb Rb vs W)(hb:Below w.heap.size W W'):Ik w Cb Rb vs W':=
 ⟨h.cur.same (hb.block _ h.lt.1) (hb.block _ h.lt.2),h.bel.trans (CJ.of hb),h.ne,h.lt⟩
theorem Ik.yes{w W:World}{Cb Rb:Nat}{v:Rt}{r:List Rt}(h:Ik w Cb Rb (v::r) W)(hd:v.d<=1):Calls Tryz.prog 59 #[.pointer (some ⟨Cb,0,none⟩)] W λe w'=>e=.returned (.int .i64 v.n)/\Ik w Cb Rb r w'/\CJ Cb W.heap.size W w':=
 (SG hd h.cur h.ne (yx h.lt.2 h.bel.size)).mono λ_ _ k=>⟨k.1,⟨k.2.1,h.bel.trans (k.2.2.mono h.bel.size),h.ne,h.lt⟩,k.2.2⟩
theorem Ik.no{w W:World}{Cb Rb:Nat}{v:Rt}{r:List Rt}(h:Ik w Cb Rb (v::r) W)(hd:1 < v.d):Calls Tryz.prog 59 #[.pointer (some ⟨Cb,0,none⟩)] W λe w'=>e=.panicked (It 190)/\CJ Cb w.heap.size w w':=
 (UQ hd h.cur h.ne (yx h.lt.2 h.bel.size)).mono λ_ _ k=>⟨k.1,h.bel.trans (k.2.mono h.bel.size)⟩
abbrev Lo(Cb:Nat):Value:=.func (.func 59) #[.pointer (some ⟨Cb,0,none⟩)] #[]
def ZS(o:Option (CA × List Rt))(w:World)(Cb Rb:Nat)(e:Ending)(w':World):Prop:=match o with
 |some (r,vs)=>e=.returned (.agg (AZ r).toArray)/\Ik w Cb Rb vs w'
 |none=>e=.panicked (It 190)/\CJ Cb w.heap.size w w'
structure Y4 (w:World) (Cb Rb:Nat) (vs:List Rt) (row res:Array Value) (W:World):Prop where
 cu:Ik w Cb Rb vs W
 x:W.heap[w.heap.size]?=some (.cells row 127 (0,0))
 r:W.heap[w.heap.size+1]?=some (.cells res 62 (0,0))
theorem Y4.call{w W W':World}{Cb Rb:Nat}{vs vs':List Rt}{row a:Array Value}(h:Y4 w Cb Rb vs row a W)(hc:Ik w Cb Rb vs' W')(hb:CJ Cb W.heap.size W W'):Y4 w Cb Rb vs' row a W':=by
 have h1:=(yd.1 h.x).1
 have h2:=(yd.1 h.r).1
 have h3:=h.cu.lt.1
 exact ⟨hc,(hb.block _ h1 (by omega)).trans h.x,(hb.block _ h2 (by omega)).trans h.r⟩
theorem Y4.up{w W W':World}{Cb Rb:Nat}{vs:List Rt}{row a:Array Value}(h:Y4 w Cb Rb vs row a W)(hb:Below W.heap.size W W'):Y4 w Cb Rb vs row a W':=
 ⟨h.cu.up hb,(hb.block _ (yd.1 h.x).1).trans h.x,(hb.block _ (yd.1 h.r).1).trans h.r⟩
theorem D3{W:World}{b:Nat}{c c':Array Value}{t:TypeId}{f:Nat × Nat}(h:W.heap[b]?=some (.cells c t f)):(W.setRow b c').heap[b]?=some (.cells c' t f):=by
 simp only[World.setRow,yH,h,zR,xi]
theorem TJ(hours:Int)(i:Nat)(x:Bj)(a b c v3 v4:Rt)(r:List Rt):Pj hours i x (a::b::c::v3::v4::r)=if a.d<=1/\b.d<=1/\c.d<=1/\v3.d<=1/\v4.d<=1 then some (Kk hours x a.n b.n c.n v3.n v4.n,r) else none:=by
 unfold Pj
 by_cases h0:a.d<=1<;>by_cases h1:b.d<=1<;>by_cases h2:c.d<=1<;>by_cases h3:v3.d<=1<;>by_cases e:v4.d<=1<;>simp[BE,h0,h1,h2,h3,e]
theorem aT(a b c d e:Int):(a<=1/\b<=1/\c<=1/\d<=1/\e<=1)\/1 < a\/(a<=1/\1 < b)\/(a<=1/\b<=1/\1 < c)\/(a<=1/\b<=1/\c<=1/\1 < d)\/(a<=1/\b<=1/\c<=1/\d<=1/\1 < e):=by omega
theorem Ps{N:NP}{w W0:World}{Cb Rb:Nat}{x:Bj}{cs:LV}(hx:Gu N w cs x)(hours:Int)(hh: -4611686018427387904<=hours/\hours<=4611686018427387904)(i:Nat)(k j g v3 v4:Rt)(r:List Rt)(hc:Hb W0 Cb Rb (k::j::g::v3::v4::r))(I:Rb≠Cb)(z:Cb < W0.heap.size/\Rb < W0.heap.size):
  Calls Tryz.prog 62 #[.agg cs.toArray,.int .i64 hours,Lo Cb] W0 (ZS (Pj hours i x (k::j::g::v3::v4::r)) W0 Cb Rb):=by
 obtain ⟨-, -, -,c0,c1,c2,c3,c4,rfl,g0,g1,Q,S,g4⟩:=hx
 obtain ⟨a0,p0,rfl, -⟩:=g0.cells
 obtain ⟨J,p1,rfl, -⟩:=g1.cells
 obtain ⟨L,p2,rfl, -⟩:=Q.cells
 obtain ⟨a3,Y,rfl, -⟩:=S.cells
 obtain ⟨a4,p4,rfl, -⟩:=g4.cells
 clear g0 g1 Q S g4
 have H:IntKind.i64.wrap (hours - 1)=hours - 1:=by rw[zF];omega
 rw[TJ]
 have B:=Z0 x.kind
 obtain ⟨kind,f,farm,reach,rank,flow,frm,e,every,len⟩:=x
 obtain ⟨q,fi⟩:=farm
 obtain ⟨s,ri⟩:=reach
 unfold B6
 dsimp only at B |-
 simp only[yQ,yS]
 obtain ⟨row,p⟩:∃row:Array Value,row=#[iV kind,.string f,.string q,iV fi,.string s,iV ri,iV rank,iV flow.op,iV flow.n,iV flow.u,.string flow.rn,iV flow.ri,.slice a0 flow.args.length p0,iV frm.op,iV frm.n,iV frm.u,.string frm.rn,iV frm.ri,.slice J frm.args.length p1,iV e.op,iV e.n,iV e.u,.string e.rn,iV e.ri,.slice L e.args.length p2,iV every.op,iV every.n,iV every.u,.string every.rn,iV every.ri,.slice a3 every.args.length Y,iV len.op,iV len.n,iV len.u,.string len.rn,iV len.ri,.slice a4 len.args.length p4]:=⟨_,rfl⟩
 have T:=yb p
 have P:=λ(o1 o2:Obj)=>World.alloc_heap_new (W0.alloc o1) o2
 simp only[ze] at P
 have a:Hid (Y4 W0 Cb Rb (k::j::g::v3::v4::r) row #[.string ⟨#[]⟩,iV 0,iV 0,iV 0,iV 0,iV 0,iV 0,iV 0,iV 0,iV 0] ((W0.alloc (.cells row 127)).alloc (.cells #[.string ⟨#[]⟩,iV 0,iV 0,iV 0,iV 0,iV 0,iV 0,iV 0,iV 0,iV 0] 62))):=yb
  ⟨(⟨hc,CJ.refl _ _ _,I,z⟩:Ik W0 Cb Rb (k::j::g::v3::v4::r) W0).up (((yg _ _).alloc (yi _) _).alloc (by simp) _),(yp _ _ _ (by simp)).trans (World.alloc_heap_new _ _),P _ _⟩
 have HX:Hid (∀V vs E,Y4 W0 Cb Rb vs row E V->V.cell? (aV W0.heap.size 0)=some (iV kind)/\V.cell? (aV W0.heap.size 1)=some (.string f)/\V.cell? (aV W0.heap.size 3)=some (iV fi)/\V.cell? (aV W0.heap.size 5)=some (iV ri)/\V.cell? (aV W0.heap.size 6)=some (iV rank)/\V.cell? (aV W0.heap.size 25)=some (iV every.op)):=yb (λV vs E hV=>by
  have h:=hV.x
  rw[p] at h
  simp[World.cell?,h])
 have Z:=yb H
 have X:=yb z
 rw[<-p]
 clear hc I p P z hh
 go_enter Tryz.func62,Tryz.ntmps62
 refine Ai λK F=>?_
 go_wp2
 refine F.o _ _ ?_
 clear F K
 generalize U:(W0.alloc _).alloc _=W
 replace a:Hid (Y4 W0 Cb Rb (k::j::g::v3::v4::r) row _ W):=yb (by rw[<-U];exact a.o)
 clear U
 refine Ai λK F=>?_
 rcases aT k.d j.d g.d v3.d v4.d with ⟨C,G,M,d3,d4⟩|C|⟨C,G⟩|⟨C,G,M⟩|⟨C,G,M,d3⟩|⟨C,G,M,d3,d4⟩
 rotate_left 1
 iterate 5
  ·rw[ym (by omega)]
   go_wp2_with (first
   |(go_at_call 59;refine (a.o.cu.yes (by assumption)).mono ?_;rintro R w2 ⟨rfl,v,l⟩;have D:=yb (a.o.call v l);clear v l a;have a:=D;clear D)
   |(go_at_call 59;refine (a.o.cu.no (by assumption)).mono ?_;rintro R w2 ⟨rfl,l⟩))
   exact ⟨rfl,rfl,l⟩
 rw[yz ⟨C,G,M,d3,d4⟩]
 go_wp2_with (first
   |(go_at_call 59;refine (a.o.cu.yes (by assumption)).mono ?_;rintro R w2 ⟨rfl,v,l⟩;have D:=yb (a.o.call v l);clear v l a;have a:=D;clear D))
 refine F.o _ _ ?_
 clear F K
 obtain ⟨k0,k1,k3,k5,k6,k25⟩:=HX.o _ _ _ a.o
 generalize w2=wr at a k0 k1 k3 k5 k6 k25 |-
 have H:=Z.o
 have b:Hid (W0.heap.size+1 < wr.heap.size):=yb (yd.1 a.o.r).1
 have t:W0.heap.size < wr.heap.size:=by have:=b.o;omega
 have A:(kind=1/\(every.op==0)=true)\/(kind=1/\(every.op==0)=false)\/kind=2\/kind=3\/((kind==1)=false/\(kind==2)=false/\(kind==3)=false):=by
  rcases B with h|h|h|⟨h1,h2,h3, -⟩
  ·cases O:(every.op==0)
   ·exact .inr (.inl ⟨h,rfl⟩)
   exact .inl ⟨h,rfl⟩
  ·exact .inr (.inr (.inl h))
  ·exact .inr (.inr (.inr (.inl h)))
  exact .inr (.inr (.inr (.inr ⟨h1,h2,h3⟩)))
 clear B
 rcases A with ⟨rfl,O⟩|⟨rfl,O⟩|rfl|rfl|⟨h1,h2,h3⟩
 ·have m:Kk hours ⟨1,f,⟨q,fi⟩,⟨s,ri⟩,rank,flow,frm,e,every,len⟩ k.n j.n g.n v3.n v4.n=⟨f,1,fi,ri,rank,k.n,j.n,g.n,1,1⟩:=by have y:=O;simp only[qL,qi,ne_eq] at y;simp[Kk,y]
  rw[m]
  clear m
  go_wp2_with (with_reducible refine yt rfl 62 (.tmp 6) (.tmp 68) rfl (W0.heap.size+1) (AZ ⟨f,1,fi,ri,rank,k.n,j.n,g.n,1,1⟩).toArray (by kernel_rfl) (by kernel_rfl) 62 _ ((yp _ _ _ b.o).trans a.o.r) (by kernel_rfl) (by kernel_rfl) (by simp[AZ,Value.oneCell']) ?_)
  exact Bd (c:=AZ ⟨f,1,fi,ri,rank,k.n,j.n,g.n,1,1⟩) rfl rfl (D3 ((yp _ _ _ b.o).trans a.o.r)) jw rfl (by kernel_rfl) ⟨rfl,(a.o.cu.up2 (Bz ((yg W0.heap.size wr).alloc (Nat.le_of_lt t) _) (qn _) _))⟩
 ·have m:Kk hours ⟨1,f,⟨q,fi⟩,⟨s,ri⟩,rank,flow,frm,e,every,len⟩ k.n j.n g.n v3.n v4.n=⟨f,1,fi,ri,rank,k.n,j.n,g.n,v3.n,v4.n⟩:=by have y:=O;simp only[qL,qi,ne_eq] at y;simp[Kk,y]
  rw[m]
  clear m
  go_wp2_with (with_reducible refine yt rfl 62 (.tmp 6) (.tmp 68) rfl (W0.heap.size+1) (AZ ⟨f,1,fi,ri,rank,k.n,j.n,g.n,v3.n,v4.n⟩).toArray (by kernel_rfl) (by kernel_rfl) 62 _ ((yp _ _ _ b.o).trans a.o.r) (by kernel_rfl) (by kernel_rfl) (by simp[AZ,Value.oneCell']) ?_)
  exact Bd (c:=AZ ⟨f,1,fi,ri,rank,k.n,j.n,g.n,v3.n,v4.n⟩) rfl rfl (D3 ((yp _ _ _ b.o).trans a.o.r)) jw rfl (by kernel_rfl) ⟨rfl,(a.o.cu.up2 (Bz ((yg W0.heap.size wr).alloc (Nat.le_of_lt t) _) (qn _) _))⟩
 ·have m:Kk hours ⟨2,f,⟨q,fi⟩,⟨s,ri⟩,rank,flow,frm,e,every,len⟩ k.n j.n g.n v3.n v4.n=⟨f,2,fi,ri,0,0,0,hours - 1,0,0⟩:=by simp[Kk]
  rw[m]
  clear m
  go_wp2_with (with_reducible refine yt rfl 62 (.tmp 6) (.tmp 68) rfl (W0.heap.size+1) (AZ ⟨f,2,fi,ri,0,0,0,hours - 1,0,0⟩).toArray (by kernel_rfl) (by kernel_rfl) 62 _ ((yp _ _ _ b.o).trans a.o.r) (by kernel_rfl) (by kernel_rfl) (by simp[AZ,Value.oneCell']) ?_)
  exact Bd (c:=AZ ⟨f,2,fi,ri,0,0,0,hours - 1,0,0⟩) rfl rfl (D3 ((yp _ _ _ b.o).trans a.o.r)) jw rfl (by kernel_rfl) ⟨rfl,(a.o.cu.up2 (Bz ((yg W0.heap.size wr).alloc (Nat.le_of_lt t) _) (qn _) _))⟩
 ·have m:Kk hours ⟨3,f,⟨q,fi⟩,⟨s,ri⟩,rank,flow,frm,e,every,len⟩ k.n j.n g.n v3.n v4.n=⟨f,3,fi,ri,0,0,j.n,g.n,0,0⟩:=by simp[Kk]
  rw[m]
  clear m
  go_wp2_with (with_reducible refine yt rfl 62 (.tmp 6) (.tmp 68) rfl (W0.heap.size+1) (AZ ⟨f,3,fi,ri,0,0,j.n,g.n,0,0⟩).toArray (by kernel_rfl) (by kernel_rfl) 62 _ ((yp _ _ _ b.o).trans a.o.r) (by kernel_rfl) (by kernel_rfl) (by simp[AZ,Value.oneCell']) ?_)
  exact Bd (c:=AZ ⟨f,3,fi,ri,0,0,j.n,g.n,0,0⟩) rfl rfl (D3 ((yp _ _ _ b.o).trans a.o.r)) jw rfl (by kernel_rfl) ⟨rfl,(a.o.cu.up2 (Bz ((yg W0.heap.size wr).alloc (Nat.le_of_lt t) _) (qn _) _))⟩
 have m:Kk hours ⟨kind,f,⟨q,fi⟩,⟨s,ri⟩,rank,flow,frm,e,every,len⟩ k.n j.n g.n v3.n v4.n=⟨f,kind,fi,ri,0,0,0,0,0,0⟩:=by
  have J:=h1;have L:=h2;have a3:=h3
  simp only[qL,ne_eq] at J L a3
  simp[Kk,J,L,a3]
 rw[m]
 clear m
 go_wp2_with (with_reducible refine yt rfl 62 (.tmp 6) (.tmp 68) rfl (W0.heap.size+1) (AZ ⟨f,kind,fi,ri,0,0,0,0,0,0⟩).toArray (by kernel_rfl) (by kernel_rfl) 62 _ ((yp _ _ _ b.o).trans a.o.r) (by kernel_rfl) (by kernel_rfl) (by simp[AZ,Value.oneCell']) ?_)
 exact Bd (c:=AZ ⟨f,kind,fi,ri,0,0,0,0,0,0⟩) rfl rfl (D3 ((yp _ _ _ b.o).trans a.o.r)) jw rfl (by kernel_rfl) ⟨rfl,(a.o.cu.up2 (Bz ((yg W0.heap.size wr).alloc (Nat.le_of_lt t) _) (qn _) _))⟩
end Go.Proofs.YtbdfinegbjdblaaGreatDoor
