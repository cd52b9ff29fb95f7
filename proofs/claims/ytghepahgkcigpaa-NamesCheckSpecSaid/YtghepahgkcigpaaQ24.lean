/- The law's sane (printed by gen_uf.py). -/
import Derived.Test.YtghepahgkcigpaaQ0
import Derived.Test.YtghepahgkcigpaaQ21
set_option maxRecDepth 100000
set_option maxHeartbeats 16000000
set_option linter.unusedSimpArgs false
namespace Go.Proofs.Ytghepahgkcigpaa
open Go.RowKit
theorem Kl{ops:Array Oper}{rest:List Oper}{op:Oper}{a:Act}{w:World}{Q:QT}(e:Region.wanted op (yielded ops a.tmps)=true)(ty:TypeId)(x:Operand)(c:op.op=.load ty x)
 (b o:Nat)(g:a.eval x=.pointer (some ⟨b,o,none⟩))(cs:LV)(d:TypeDesc)(hc:w.rangeAt b o cs)(i:Try.prog.underlying ty=some d)(hd:d.isRow=true)(hi:(Try.prog.info? ty).map (·.size)=some cs.length)
 (h:wpList Try.prog ops Q rest (a.put op.dst (.agg cs.toArray)) w):wpList Try.prog ops Q (op::rest) a w:=
 wpList_step fun K f=>by rw[yu e];exact wp_load_mid ty x c b o g cs d hc i hd hi (f _ _ h)
mutual
def Sv:Ex->Bool
 |.mk _ _ _ _ _ args=>decide (args.length<=100000)&&OW args
def OW:List Ex->Bool
 |[]=>true
 |e::r=>Sv e&&OW r
end
mutual
theorem Qo:∀e:Ex,Sv e=true->IM e
 |.mk _ _ _ _ _ args,h=>by
  rw[Sv,ym,yR] at h
  rw[IM];exact ⟨h.1,O8 args h.2⟩
theorem O8:∀l:List Ex,OW l=true->IP l
 |[],_=>by rw[IP];trivial
 |e::r,h=>by
  rw[OW,ym] at h
  rw[IP];exact ⟨Qo e h.1,O8 r h.2⟩
end
theorem It{x:AA}(h:(Bb x).all (fun e=>Sv e.1)=true):∀e∈Bb x,IM e.1:=fun e a=>Qo _ (by rw[yM] at h;exact h e a)
theorem GD{P:Program}{ops:Array Oper}{rest:List Oper}{o:Oper}{a:Act}{w:World}{Q:QT}(c:Region.wanted o (yielded ops a.tmps)=true)(h:∀K:Act->World->Prop,(∀a w,wpList P ops Q rest a w->K a w)->o.wp P a w K Q):wpList P ops Q (o::rest) a w:=
 wpList_step fun K b=>by rw[yu c];exact h K b
theorem MD(a:ByteArray)(l:List Cp)(h:l.length<=2)(b:∀e∈Bb (E1 a l),IM e.1):MU (E1 a l):=⟨by simp[E1],by simp[E1];omega,by simp[E1],by simp[E1],by simp[E1],by simp[E1],by simp[E1],by simp[E1],b⟩
theorem Km{x:AA}(h:BX x=true):∀e∈Bb x,AV e.1<=1000000:=fun e b=>by
 obtain ⟨_,_,_,_,_,_,_,_,a⟩:=FE h
 have:=a e b;omega
theorem O9{w:World}(b:GV w){W:World}(hb:Below w.heap.size w W)(a:ByteArray)(d:a.size<=1000)(c:BX (E1 a [])=true):Calls Try.prog 11 #[.agg (OV a ⟨none,0,0⟩).toArray] W (GN W (E1 a [])):=
 FO (L:=RM ⟨none,0,0⟩) (N:=fun _=>False) (O6 d Jq) (fun _ h=>h.elim) (MD _ _ (by simp) (It rfl)) (b.below hb b.1) (Km c)
def UR:Array Value:=#[.string bC,.int .i64 0,.int .i64 0,.int .i64 0,.string ⟨#[]⟩,.int .i64 0,.slice none 0 0,.string bC,.int .i64 0,.int .i64 0,.int .i64 0,.string ⟨#[]⟩,.int .i64 0,.slice none 0 0]
theorem VC{w:World}(c:GV w){W W':World}{g:Nat}(hb:Below w.heap.size w W)(e:W'=W.alloc (.cells UR 57))(a:g=W.heap.size):Calls Try.prog 11 #[.agg (OV O5 ⟨some ⟨g,0,none⟩,2,2⟩).toArray] W' (GN W' (E1 O5 [⟨bC,Em⟩,⟨bC,Em⟩])):=by
 subst e a
 have d:=World.alloc_heap_new W (.cells UR 57)
 refine FO (L:=RM ⟨some (aV W.heap.size 0),2,2⟩) (N:=fun b=>b=W.heap.size) (O6 (yt rfl) ⟨rfl,by simp,fun i hi=>?_⟩) (fun b hb=>by rw[hb];simp) (MD _ _ (by simp) (It rfl)) (c.below (hb.alloc hb.size _) c.1) (Km (by kernel_rfl))
 match i,hi with
 |0,_=>exact ⟨W.heap.size,0,.string bC::GC 0 0 0 bN 0,rfl,rfl,rfl,Cl d _ rfl,mx _ (yt rfl),_,rfl,Tp⟩
 |1,_=>exact ⟨W.heap.size,0,.string bC::GC 0 0 0 bN 0,rfl,rfl,rfl,Cl d _ rfl,mx _ (yt rfl),_,rfl,Tp⟩
theorem ME:MU EY:=⟨by decide,by decide,by decide,by decide,by decide,by decide,by decide,by simp[EY],It (by kernel_rfl)⟩
theorem Qp:MU G3:=⟨by decide,by decide,by decide,by decide,by decide,by decide,by decide,by simp[G3],It (by kernel_rfl)⟩
theorem Qq{w:World}(hg:GV w):Calls Try.prog 9 #[] w fun e w'=>e=.returned (.bool true)∧Below w.heap.size w w':=by
 have x:=ya hg
 have r:=ya (yc w.heap.size w)
 clear hg
 go_enter Try.func9,Try.ntmps9
 go_upto_region 1 with fail
 refine xo ?_
 refine yF rfl fun K a=>?_
 go_simp
 refine a _ _ ?_
 clear a K
 refine yF rfl fun K a=>?_
 go_simp
 refine (O9 x.o r.o bN (by decide) (by kernel_rfl)).mono ?_
 intro e v1 d
 obtain ⟨a1,rfl,j,c,f,i⟩:=Kc d
 clear d
 rw[Wr]
 refine a _ _ ?_
 clear a K
 have a8:=ya j;have z:=ya (yy c);have ah:=ya i
 have s:=ya (((r.o).trans (f.mono (r.o).size)).alloc (yo (r.o).size f.size) (.cells a1.toArray 35))
 clear j c f i
 iterate 4
  refine yF rfl fun K a=>?_
  go_simp
  refine a _ _ ?_
  clear a K
 refine z6 rfl 35 _ _ rfl v1.heap.size a1.toArray rfl rfl 35 _ (World.alloc_heap_new _ _) (by rw[yp,a8.o];kernel_rfl) (by simp[a8.o]) z.o ?_
 rw[World.setRow_alloc_new]
 refine yF rfl fun K a=>?_
 go_simp
 refine a _ _ ?_
 clear a K
 refine xQ ?_
 go_upto_region 2 with fail
 refine xo ?_
 refine yF rfl fun K a=>?_
 go_simp
 refine a _ _ ?_
 clear a K
 refine yF rfl fun K a=>?_
 go_simp
 refine (O9 x.o s.o UP (by decide) (by kernel_rfl)).mono ?_
 intro e v2 d
 obtain ⟨X,rfl,j,c,f,i⟩:=Kc d
 clear d
 rw[Ws]
 refine a _ _ ?_
 clear a K
 have L:=ya j;have D:=ya (yy c);have ag:=ya i
 have m:=ya (((s.o).trans (f.mono (s.o).size)).alloc (yo (s.o).size f.size) (.cells X.toArray 35))
 clear j c f i
 iterate 4
  refine yF rfl fun K a=>?_
  go_simp
  refine a _ _ ?_
  clear a K
 refine z6 rfl 35 _ _ rfl v2.heap.size X.toArray rfl rfl 35 _ (World.alloc_heap_new _ _) (by rw[yp,L.o];kernel_rfl) (by simp[L.o]) D.o ?_
 rw[World.setRow_alloc_new]
 refine yF rfl fun K a=>?_
 go_simp
 refine a _ _ ?_
 clear a K
 refine xQ ?_
 go_upto_region 3 with fail
 refine xo ?_
 iterate 4
  refine yF rfl fun K a=>?_
  go_simp
  refine a _ _ ?_
  clear a K
 refine yF rfl fun K a=>?_
 go_simp
 refine (VC x.o m.o rfl (by simp)).mono ?_
 intro e v3 d
 obtain ⟨T,rfl,j,c,f,i⟩:=Kc d
 clear d
 rw[Wu]
 refine a _ _ ?_
 clear a K
 have N:=ya j;have B:=ya (yy c);have ai:=ya i
 have a2:=ya ((((m.o.alloc m.o.size (.cells UR 57))).trans (f.mono ((m.o.alloc m.o.size (.cells UR 57))).size)).alloc (yo ((m.o.alloc m.o.size (.cells UR 57))).size f.size) (.cells T.toArray 35))
 clear j c f i
 iterate 4
  refine yF rfl fun K a=>?_
  go_simp
  refine a _ _ ?_
  clear a K
 refine z6 rfl 35 _ _ rfl v3.heap.size T.toArray rfl rfl 35 _ (World.alloc_heap_new _ _) (by rw[yp,N.o];kernel_rfl) (by simp[N.o]) B.o ?_
 rw[World.setRow_alloc_new]
 refine yF rfl fun K a=>?_
 go_simp
 refine a _ _ ?_
 clear a K
 refine xQ ?_
 go_upto_region 4 with fail
 refine xo ?_
 refine yF rfl fun K a=>?_
 go_simp
 refine (O1 _).mono ?_
 rintro e w4 ⟨cells,rfl,n,R,M⟩
 obtain ⟨L4,ap,rfl,Z⟩:=O7 M
 have t:=ya (a2.o.trans (R.mono a2.o.size))
 have aa:=ya Z
 clear n R M Z
 refine a _ _ ?_
 clear a K
 refine yF rfl fun K a=>?_
 go_simp
 refine (FO aa.o (fun b hb=>hb.2) ME (x.o.below t.o x.o.1) (Km (by kernel_rfl))).mono ?_
 intro e v4 d
 obtain ⟨g,rfl,j,c,f,i⟩:=Kc d
 clear d
 rw[UQ]
 refine a _ _ ?_
 clear a K
 have A:=ya j;have C:=ya (yy c);have S:=ya i
 have F:=ya (((t.o).trans (f.mono (t.o).size)).alloc (yo (t.o).size f.size) (.cells g.toArray 35))
 clear j c f i
 iterate 4
  refine yF rfl fun K a=>?_
  go_simp
  refine a _ _ ?_
  clear a K
 refine z6 rfl 35 _ _ rfl v4.heap.size g.toArray rfl rfl 35 _ (World.alloc_heap_new _ _) (by rw[yp,A.o];kernel_rfl) (by simp[A.o]) C.o ?_
 rw[World.setRow_alloc_new]
 refine yF rfl fun K a=>?_
 go_simp
 refine a _ _ ?_
 clear a K
 refine xQ ?_
 obtain ⟨L5,N5,s5,n5⟩:=S.o UQ
 rw[Tq] at s5
 have a0:Below v4.heap.size v4 (v4.alloc (.cells g.toArray 35)):=(yc _ _).alloc (ye _) _
 have G:Ba N5 (v4.alloc (.cells g.toArray 35)) L5 g G3:=s5.same (fun _ h=>h) (fun b hb=>a0.block b (n5 b hb).2)
 have J:(v4.alloc (.cells g.toArray 35)).rangeAt v4.heap.size 0 g:=by
  have h:=yV (World.alloc_heap_new v4 (.cells g.toArray 35)) 0 g.length
  simpa using h
 obtain ⟨b1,o1,c1,b2,o2,c2,b3,o3,c3,b4,o4,c4,b5,o5,c5,b6,o6,c6,b7,o7,c7,b8,o8,c8,k⟩:=Qn G J
 have ad:=ya (KF G (fun b hb=>by have:=(n5 b hb).2;simp;omega) Qp (x.o.below F.o x.o.1) (Km (by kernel_rfl)))
 have ac:=ya J;have HF:=ya k
 have ab:Hid ((Try.prog.info? 35).map (·.size)=some g.length):=ya (by rw[A.o];kernel_rfl)
 have ae:Hid (∀U,Below (v4.alloc (.cells g.toArray 35)).heap.size (v4.alloc (.cells g.toArray 35)) U->Su U v4.heap.size b1 o1 c1 b2 o2 c2 b3 o3 c3 b4 o4 c4 b5 o5 c5 b6 o6 c6 b7 o7 c7 b8 o8 c8):=ya (fun U hU=>by
  have l:∀ {p:Addr} {v:Value},(v4.alloc (.cells g.toArray 35)).cell? p=some v->U.cell? p=some v:=fun {p v} h=>(hU.cell (p:=p) (by
   rcases zV p.block (v4.alloc (.cells g.toArray 35)).heap.size with h'|h'
   ·exact h'
   ·simp[World.cell?,xm h'] at h)).trans h
  exact ⟨l k.lets,l k.args,l k.arg0,l k.reaches,l k.cap,l k.farms,l k.on0,l k.crop0,l k.on1,l k.rots,l k.turns,l k.turn0,l k.rights,l k.right0,l k.duties,l k.duty0⟩)
 clear s5 a0 G J k n5
 have u:Hid (EC G3=0):=ya (by kernel_rfl)
 go_upto_region 5 with fail
 refine xo ?_
 iterate 15
  refine GD (by kernel_rfl) fun K a=>?_
  go_simp
  refine a _ _ ?_
  clear a K
 refine Kl (by kernel_rfl) 35 _ rfl v4.heap.size 0 rfl g _ ac.o qO rfl ab.o ?_
 refine GD (by kernel_rfl) fun K a=>?_
 go_simp
 refine ad.o.mono ?_
 rintro e w8 ⟨W,I⟩
 rw[u.o] at W
 subst W
 have Q:=ya I
 have P:=ya (F.o.trans (I.mono F.o.size))
 clear I
 iterate 4
  refine a _ _ ?_
  clear a K
  refine GD (by kernel_rfl) fun K a=>?_
  go_simp
 refine (O1 _).mono ?_
 rintro e w9 ⟨cells,rfl,n,E,a6⟩
 obtain ⟨L9,al,rfl,Y⟩:=O7 a6
 have O:=ya (Q.o.trans (E.mono Q.o.size))
 have H:=ya (P.o.trans (E.mono P.o.size))
 have af:=ya Y
 clear n E a6 Y
 refine a _ _ ?_
 clear a K
 refine GD (by kernel_rfl) fun K a=>?_
 go_simp
 refine (KF af.o (fun b hb=>hb.2) ME (x.o.below H.o x.o.1) (Km (by kernel_rfl))).mono ?_
 rintro e ar ⟨y,q⟩
 rw[Wv] at y
 subst y
 have V:=ya (O.o.trans (q.mono O.o.size))
 have a7:=ya (H.o.trans (q.mono H.o.size))
 clear q
 iterate 2
  refine a _ _ ?_
  clear a K
  refine GD (by kernel_rfl) fun K a=>?_
  go_simp
 refine a _ _ ?_
 clear a K
 refine xQ ?_
 obtain ⟨f1,f2,f3,f4,f5,f6,f7,f8,f9,am,au,ak,aq,an,aj,ao⟩:=ae.o _ V.o
 go_upto_region 7 with fail
 refine xo ?_
 iterate 53
  refine GD (by kernel_rfl) fun K a=>?_
  go_simp
  refine a _ _ ?_
  clear a K
 refine xQ ?_
 go_upto_region 9 with fail
 refine xo ?_
 iterate 79
  refine GD (by kernel_rfl) fun K a=>?_
  go_simp
  refine a _ _ ?_
  clear a K
 refine xQ ?_
 go_wp2
 go_ret
 exact ⟨rfl,a7.o⟩
end Go.Proofs.Ytghepahgkcigpaa
