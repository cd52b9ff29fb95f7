/- The reference's Resolve, whole (printed by gen_zo.py). -/
import Derived.Test.YtghepahgkcigpaaQ0
import Derived.Test.YtghepahgkcigpaaQ31
import Derived.Test.YtghepahgkcigpaaQ20
set_option maxRecDepth 100000
set_option maxHeartbeats 64000000
set_option linter.unusedSimpArgs false
namespace Go.Proofs.Ytghepahgkcigpaa
open Go.RowKit
def Gw(x:AA):Int:=if DU x=true then (if Gv x=true then (if Iz x=true then IZ (KB (Tb.of x) x) else 171) else 170) else 2
structure R0 (w:World) (cs:List Value) (W:World):Prop where
 below:Below w.heap.size w W
 s:W.heap[w.heap.size]?=some (.cells cs.toArray 35 (0,0))
 z:W.heap[w.heap.size+1]?=some (.cells Bp.toArray 35 (0,0))
 sz:w.heap.size+2<=W.heap.size
theorem R0.up{w W W':World}{cs:LV}(h:R0 w cs W)(hb:Below W.heap.size W W'):R0 w cs W':=by
 have h0:=h.sz
 exact ⟨h.below.trans (hb.mono h.below.size),(hb.block _ (by omega)).trans h.s,(hb.block _ (by omega)).trans h.z,yo h0 hb.size⟩
theorem UG{w W:World}{cs:LV}(h:W=(w.alloc (.cells cs.toArray 35)).alloc (.cells #[.string {data:=#[]},.int .i64 0,.int .i64 0,.int .i64 0,.string {data:=#[]},.int .i64 0,.slice none 0 0,.int .i64 0,.int .i64 0,.int .i64 0,.string {data:=#[]},.int .i64 0,.slice none 0 0,.int .i64 0,.int .i64 0,.int .i64 0,.string {data:=#[]},.int .i64 0,.slice none 0 0,.slice none 0 0,.slice none 0 0,.slice none 0 0,.slice none 0 0,.slice none 0 0,.slice none 0 0,.slice none 0 0] 35)):R0 w cs W:=by
 have b1:Below w.heap.size w (w.alloc (.cells cs.toArray 35)):=(yc _ _).alloc (ye _) _
 refine ⟨by rw[h];exact b1.alloc (by simp) _,?_,?_,by rw[h];simp⟩
 ·rw[h,yT _ _ _ (by simp)];exact World.alloc_heap_new _ _
 ·have:=World.alloc_heap_new (w.alloc (.cells cs.toArray 35)) (.cells jb 35)
  rw[h];simpa[Bp] using this
theorem NV{L:BL}{N:NP}{w:World}{cs:LV}{y:AA}(h:VS L N w cs y):cs.length=26∧∀v∈cs,v.oneCell'=true:=by
 obtain ⟨_,c0,c1,c2,hl,hc,rfl,b,g1,a,_,_⟩:=h
 exact ⟨by simp[b.len,g1.len,a.len],An rfl (Ai (A8 b) (Ai (A8 g1) (Ai (A8 a) (An rfl (An rfl (An rfl (An rfl (An rfl (An rfl (An rfl (fun _ h=>nomatch h)))))))))))⟩
theorem Cb{w w':World}{h:AF}{l:LB}{b:Nat}{c:LV}(g:AZ w h 1 0 l)(d:AB w w' b c 109)(n:w.heap[b]?=some (.cells [Value.slice none 0 0,.slice none 0 0,.slice none 0 0,.slice none 0 0].toArray 109 (0,0))):AZ w' h 1 0 l:=by
 obtain ⟨h1,h2,h3⟩:=g
 refine ⟨h1,h2,fun i hi=>?_⟩
 obtain ⟨b',o,cs,q,m,p,e,r,f,k⟩:=h3 i hi
 have a:b'≠b:=by
  rintro rfl
  have h:=e 0 _ f
  simp only[World.cell?,n] at h
  rcases hj:o+i*1+0 with _|_|_|_|j<;>rw[hj] at h<;>simp at h
 exact ⟨b',o,cs,q,by rw[d.size];exact m,p,A1 e (d.block _ a),r,f,k⟩
theorem My{F:NP}{w:World}{cs:LV}{x:AA}{L:BL}(hv:Ba (GF F w) w L cs x)(hF:∀b,F b->b < w.heap.size)(bh:EJ x=true):
  Calls Try.prog 12 #[.agg cs.toArray] w (JR F w (Gw x) (OJ (Tb.of x) x)):=by
 have HV:=ya hv
 have HF:=ya hF
 have m:=ya (OO bh)
 have co:=ya (UF bh)
 have Y:=ya hv.len
 clear hv hF bh
 go_enter Try.func12,Try.ntmps12
 refine AH fun K f=>?_
 go_wp2_with (first|(refine AR rfl 35 _ rfl cs.toArray rfl ?_))
 refine f.o _ _ ?_
 clear f K
 obtain ⟨w1,bu⟩:∃z:World,z=(w.alloc (.cells cs.toArray 35)).alloc (.cells jb 35):=⟨_,rfl⟩
 rw[<-bu]
 have Z:=ya (UG bu)
 clear bu
 have P:Hid (Ba (GF F w) w1 L cs x):=ya (HV.o.same (fun _ h=>h) (fun b hb=>Z.o.below.block b hb.2))
 have Q:Hid (∀b,GF F w b->b < w1.heap.size):=ya (fun b hb=>yk hb.2 Z.o.below.size)
 have V:=ya (A6 Z.o.s)
 refine AH fun K f=>?_
 cases hq:DU x
 ·have b3:Hid (Gw x=2):=ya (by simp[Gw,hq])
  clear f
  go_wp2_with (first
   |(refine yf rfl 35 _ rfl w.heap.size 0 rfl cs _ V.o qO rfl (AX (n:=26) (by kernel_rfl) Y.o) ?_)
   |(go_at_call 52;refine (Qi P.o Q.o m.o co.o).mono ?_;rintro e v ⟨rfl,a⟩;rw[hq];have U:=ya (Z.o.up a);clear a)
   |(refine A2 rfl 35 _ _ rfl (w.heap.size+1) rfl Bp rfl U.o.z rfl (by kernel_rfl) (by simp[Bp,Value.oneCell']) ?_;intro w9 ap;have aw:=ya ap;clear ap))
  refine At rfl rfl aw.o.row qO rfl (by kernel_rfl) ?_
  exact ⟨Bp,J0,by rw[b3.o];rfl,J1 _ _,by rw[b3.o];simp,aw.o.below U.o.below (by omega)⟩
 have bt:=ya hq
 go_wp2_with (first
  |(refine yf rfl 35 _ rfl w.heap.size 0 rfl cs _ V.o qO rfl (AX (n:=26) (by kernel_rfl) Y.o) ?_)
  |(go_at_call 52;refine (Qi P.o Q.o m.o co.o).mono ?_;rintro e v0 ⟨rfl,a⟩;rw[hq];have U:=ya (Z.o.up a);clear a))
 refine f.o _ _ ?_
 clear f K hq Z P Q V
 have Z:=U
 clear U
 have P:Hid (Ba (GF F w) v0 L cs x):=ya (HV.o.same (fun _ h=>h) (fun b hb=>Z.o.below.block b hb.2))
 have Q:Hid (∀b,GF F w b->b < v0.heap.size):=ya (fun b hb=>yk hb.2 Z.o.below.size)
 have V:=ya (A6 Z.o.s)
 refine AH fun K f=>?_
 cases hq:Gv x
 ·have b3:Hid (Gw x=170):=ya (by simp[Gw,bt.o,hq])
  clear f
  go_wp2_with (first
   |(refine yf rfl 35 _ rfl w.heap.size 0 rfl cs _ V.o qO rfl (AX (n:=26) (by kernel_rfl) Y.o) ?_)
   |(go_at_call 53;refine (NQ P.o Q.o m.o).mono ?_;rintro e v ⟨rfl,a⟩;rw[hq];have U:=ya (Z.o.up a);clear a)
   |(refine A2 rfl 35 _ _ rfl (w.heap.size+1) rfl Bp rfl U.o.z rfl (by kernel_rfl) (by simp[Bp,Value.oneCell']) ?_;intro w9 ap;have aw:=ya ap;clear ap))
  refine At rfl rfl aw.o.row qO rfl (by kernel_rfl) ?_
  exact ⟨Bp,J0,by rw[b3.o];rfl,J1 _ _,by rw[b3.o];simp,aw.o.below U.o.below (by omega)⟩
 have ck:=ya hq
 go_wp2_with (first
  |(refine yf rfl 35 _ rfl w.heap.size 0 rfl cs _ V.o qO rfl (AX (n:=26) (by kernel_rfl) Y.o) ?_)
  |(go_at_call 53;refine (NQ P.o Q.o m.o).mono ?_;rintro e v1 ⟨rfl,a⟩;rw[hq];have U:=ya (Z.o.up a);clear a))
 refine f.o _ _ ?_
 clear f K hq Z P Q V
 have Z:=U
 clear U
 have P:Hid (Ba (GF F w) v1 L cs x):=ya (HV.o.same (fun _ h=>h) (fun b hb=>Z.o.below.block b hb.2))
 have Q:Hid (∀b,GF F w b->b < v1.heap.size):=ya (fun b hb=>yk hb.2 Z.o.below.size)
 have V:=ya (A6 Z.o.s)
 refine AH fun K f=>?_
 cases hq:Iz x
 ·have b3:Hid (Gw x=171):=ya (by simp[Gw,bt.o,ck.o,hq])
  clear f
  go_wp2_with (first
   |(refine yf rfl 35 _ rfl w.heap.size 0 rfl cs _ V.o qO rfl (AX (n:=26) (by kernel_rfl) Y.o) ?_)
   |(go_at_call 54;refine (NT P.o Q.o m.o).mono ?_;rintro e v ⟨rfl,a⟩;rw[hq];have U:=ya (Z.o.up a);clear a)
   |(refine A2 rfl 35 _ _ rfl (w.heap.size+1) rfl Bp rfl U.o.z rfl (by kernel_rfl) (by simp[Bp,Value.oneCell']) ?_;intro w9 ap;have aw:=ya ap;clear ap))
  refine At rfl rfl aw.o.row qO rfl (by kernel_rfl) ?_
  exact ⟨Bp,J0,by rw[b3.o];rfl,J1 _ _,by rw[b3.o];simp,aw.o.below U.o.below (by omega)⟩
 have d2:=ya hq
 go_wp2_with (first
  |(refine yf rfl 35 _ rfl w.heap.size 0 rfl cs _ V.o qO rfl (AX (n:=26) (by kernel_rfl) Y.o) ?_)
  |(go_at_call 54;refine (NT P.o Q.o m.o).mono ?_;rintro e p ⟨rfl,a⟩;rw[hq];have U:=ya (Z.o.up a);clear a))
 refine f.o _ _ ?_
 clear f K hq Z P Q V
 have Z:=U
 clear U
 have P:Hid (∀W,Below p.heap.size p W->Ba (GF F w) W L cs x):=ya (fun W hb=>HV.o.same (fun _ h=>h) (fun b a=>(Z.o.below.trans (hb.mono Z.o.below.size)).block b a.2))
 have Q:Hid (∀W,Below p.heap.size p W->∀b,GF F w b->b < W.heap.size):=ya (fun W hb b a=>yk a.2 (yo Z.o.below.size hb.size))
 have V:=ya (A6 Z.o.s)
 refine AH fun K f=>?_
 have HT:Hid (∀(S4:Nat) (V0:World) (a0 a1 a2 a3:AF) (cf ct c5 cp cq bw c4 c6 cj cr c9 cm c3 ca c7 ch ce bz cb:Value),p.heap.size<=S4->Below p.heap.size p V0->V0.heap[S4]?=some (.cells [a0.v,a1.v,a2.v,a3.v].toArray 109 (0,0))->AZ V0 a0 1 0 (x.lets.map (fun d:E8=>d.name))->AZ V0 a1 1 0 (x.crops.map (fun d:Cp=>d.name))->AZ V0 a2 1 0 (x.reaches.map (fun d:AI=>d.name))->AZ V0 a3 1 0 (x.farms.map (fun d:BN=>d.name))->a0.n<=a0.c->a2.n<=a2.c->K {tmps:=#[.agg cs.toArray,pV w.heap.size 0,pV (w.heap.size+1) 0,iV 0,pV S4 0,undef,undef,undef,undef,undef,undef,undef,undef,undef,undef,undef,undef,undef,undef,undef,undef,undef,cf,ct,c5,cp,cq,bw,c4,c6,cj,cr,c9,cm,c3,ca,c7,ch,ce,bz,cb,undef,undef,undef,undef,undef,undef,undef,undef,undef,undef,undef,undef,undef,undef,undef,undef,undef,undef,undef,undef,undef,undef,undef,undef,undef,undef,undef,undef,undef,undef,undef,undef,undef,undef,undef,undef,undef,undef,undef,undef,undef,undef,undef,undef,undef,undef,undef,undef,undef,undef,undef,undef,undef,undef,undef,undef,undef,undef,undef,undef,undef,undef,undef,undef,undef,undef,undef,undef,undef,undef,undef,undef,undef,undef,undef,undef,undef,undef,undef,undef,undef,undef,undef,undef,undef,undef,undef,undef,undef,undef,undef,undef,undef,undef,undef,undef,undef,undef,undef,undef,undef,undef,undef,undef,undef,undef,undef,undef,undef,undef,undef,undef,undef,undef,undef,undef,undef,undef,undef,undef,undef,undef,undef,undef,undef,undef,undef,undef,undef,undef,undef,undef,undef,undef,undef,undef,undef,undef,undef,undef,undef,undef,undef,undef,undef,undef,undef,undef,undef,undef,undef],defers:=[]} V0):=ya (by
  intro S4 V0 a0 a1 a2 a3 cf ct c5 cp cq bw c4 c6 cj cr c9 cm c3 ca c7 ch ce bz cb hS hb h4 ao al a7 X aq a8
  refine f.o _ _ ?_
  clear f K
  have d6:=ya hb
  have HS:Hid (MN V0 [a0.v,a1.v,a2.v,a3.v] a0 a1 a2 a3 (Tb.of x)):=ya ⟨rfl,ao,al,a7,X⟩
  have d0:=ya (A6 h4)
  have bi:Hid (S4 < V0.heap.size):=ya (yd.1 h4).1
  have bp:=ya hS
  have ba:=ya (Z.o.up hb)
  have ar:=ya aq;have an:=ya a8
  have H4:=ya h4
  have ci:=ya (A6 ba.o.s)
  clear hS hb h4 ao al a7 X aq a8 V
  have cw:=ya (UD (F:=FL F [w.heap.size,w.heap.size+1,S4]) (t:=Tb.of x) ((HV.o.same (fun _ h=>h) (fun b hb=>ba.o.below.block b hb.2)).same (N:=GF F w) (N':=GF (FL F [w.heap.size,w.heap.size+1,S4]) V0) (fun b hb=>⟨fun h=>h.elim hb.1 (fun h=>by have h1:=hb.2;have h2:=bp.o;have h3:=Z.o.sz;simp at h;omega),yk hb.2 ba.o.below.size⟩) (fun _ _=>rfl)) HS.o (FG (fun b hb=>yk (HF.o b hb) ba.o.below.size) (fun k hk=>by have h2:=bi.o;have h3:=ba.o.sz;simp at hk;omega)) ar.o (by simp[Tb.of]) (by have:=m.o.lets;omega) (by have:=m.o.crops;omega))
  refine AH fun K f=>?_
  go_wp2_with (first
   |(refine yf rfl 35 _ rfl w.heap.size 0 rfl cs _ ci.o qO rfl (AX (n:=26) (by kernel_rfl) Y.o) ?_)
   |(refine yf rfl 109 _ rfl S4 0 rfl [a0.v,a1.v,a2.v,a3.v] _ d0.o qx rfl (by kernel_rfl) ?_)
   |(go_at_call 56;refine cw.o.mono ?_;rintro e W ⟨row,y,rfl,hy,cg,a⟩;have HY:=ya hy;have d3:=ya cg;have bq:=ya a;have cl:=ya (NV hy).1;have HOr:=ya (NV hy).2;clear hy cg a)
   |(refine A2 rfl 35 _ _ rfl W.heap.size rfl row rfl (World.alloc_heap_new _ _) (by rw[cl.o];rfl) (AX (n:=26) (by kernel_rfl) cl.o) HOr.o ?_;intro W2 cc;have cn:=ya cc;clear cc))
  refine f.o _ _ ?_
  clear f K
  have cd:Below W.heap.size W W2:=cn.o.below ((yc _ _).alloc (ye _) _) (ye _)
  have bs:Below V0.heap.size V0 W2:=bq.o.trans (cd.mono bq.o.size)
  have cz:Rs w cs [a0.v,a1.v,a2.v,a3.v] row S4 W.heap.size V0 W2:=by
   have h:=ba.o.up bs
   exact ⟨h.below,h.s,⟨Bp,rfl,h.z⟩,(bs.block _ bi.o).trans H4.o,cn.o.row,by have h2:=bp.o;have h3:=Z.o.sz;omega,bi.o,bq.o.size,bs⟩
  obtain ⟨cv,c0,c1,c2,hl,hc,bv,g0,g1,g2,gl,gc⟩:=HY.o
  have bj:AP (FL F [w.heap.size,w.heap.size+1,S4]) W W2:=AP.below cd
  have bk:∀b,FL F [w.heap.size,w.heap.size+1,S4,W.heap.size] b->FL F [w.heap.size,w.heap.size+1,S4] b∨W.heap.size<=b:=fun b hb=>hb.elim (fun h=>.inl (.inl h)) (fun h=>by
   simp at h
   rcases h with h|h|h|h
   ·exact .inl (.inr (by simp[h]))
   ·exact .inl (.inr (by simp[h]))
   ·exact .inl (.inr (by simp[h]))
   ·exact .inr (by omega))
  have hG:EE 0 (GF (FL F [w.heap.size,w.heap.size+1,S4,W.heap.size]) W2) W2 c0 c1 c2 hl hc L.reaches L.farms L.rots L.rights L.duties y:=
   ⟨cv,g0.flux bj bk,g1.flux bj bk,g2.flux bj bk,gl.flux DP bj bk,gc.flux Fj bj bk,fun h=>absurd h (by omega),fun h=>absurd h (by omega),fun h=>absurd h (by omega),fun h=>absurd h (by omega),fun h=>absurd h (by omega)⟩
  have hw:Gw x=IZ (KB (Tb.of x) x):=by simp[Gw,bt.o,ck.o,d2.o]
  rw[hw]
  exact X2 (y:=y) (y0:=Mw (Tb.of x) x) (t:=Tb.of x) HV.o HF.o m.o HS.o an.o (by simp[Tb.of]) (by rw[<-bv];exact cz) hG d3.o
  )
 clear f
 have ag:Hid (Below p.heap.size p p.drew):=ya (yc _ _).drew
 refine wp_region_noPanic ?_
 refine Bz (by kernel_rfl) (fun W=>Below p.heap.size p W) 10 ?_
 refine Ag (i:=0) (v:=.agg (cs).toArray) rfl (by kernel_rfl) (by kernel_rfl) (by kernel_rfl) (fun _ _ _ h=>h) (by kernel_rfl) (yS (by rfl) 35 _ rfl (w.heap.size) (0) rfl (cs) _ (fun W hW=>A1 V.o (hW.block _ (by have:=Z.o.sz;omega))) qO rfl (AX (n:=26) (by kernel_rfl) Y.o)) ag.o ?_
 refine Ag (i:=2) (v:=.agg (cs).toArray) rfl (by kernel_rfl) (by kernel_rfl) (by kernel_rfl) (fun _ _ _ h=>h) (by kernel_rfl) (yS (by rfl) 35 _ rfl (w.heap.size) (0) rfl (cs) _ (fun W hW=>A1 V.o (hW.block _ (by have:=Z.o.sz;omega))) qO rfl (AX (n:=26) (by kernel_rfl) Y.o)) ag.o ?_
 refine Ag (i:=4) (v:=.agg (cs).toArray) rfl (by kernel_rfl) (by kernel_rfl) (by kernel_rfl) (fun _ _ _ h=>h) (by kernel_rfl) (yS (by rfl) 35 _ rfl (w.heap.size) (0) rfl (cs) _ (fun W hW=>A1 V.o (hW.block _ (by have:=Z.o.sz;omega))) qO rfl (AX (n:=26) (by kernel_rfl) Y.o)) ag.o ?_
 refine Ag (i:=6) (v:=.agg (cs).toArray) rfl (by kernel_rfl) (by kernel_rfl) (by kernel_rfl) (fun _ _ _ h=>h) (by kernel_rfl) (yS (by rfl) 35 _ rfl (w.heap.size) (0) rfl (cs) _ (fun W hW=>A1 V.o (hW.block _ (by have:=Z.o.sz;omega))) qO rfl (AX (n:=26) (by kernel_rfl) Y.o)) ag.o ?_
 refine D4 (i:=1) (j:=9) (by kernel_rfl) rfl rfl (fun K f=>?_) (fun K f=>?_)
 ·go_simp
  refine (JU (P.o _ ag.o) (Q.o _ ag.o) m.o).mono ?_
  rintro e y2 ⟨⟨J,M,O⟩,rfl,ao,aq,a⟩
  dsimp only [AF.v]
  have l:=ya ao;have ar:=ya aq
  have ab:Hid (Below p.heap.size p y2):=ya (ag.o.trans (a.mono ag.o.size))
  refine f.o _ _ (fun _=>ab.o) ?_
  clear f K ao aq a
  refine D4 (i:=3) (j:=9) (by kernel_rfl) rfl rfl (fun K f=>?_) (fun K f=>?_)
  ·go_simp
   refine (Ip (P.o _ ab.o) (Q.o _ ab.o) m.o).mono ?_
   rintro e y4 ⟨⟨I,G,H⟩,rfl,al,b4,a⟩
   dsimp only [AF.v]
   replace l:=ya (l.o.up a)
   have q:=ya al;have c8:=ya b4
   have ad:Hid (Below p.heap.size p y4):=ya (ab.o.trans (a.mono ab.o.size))
   refine f.o _ _ (fun _=>ad.o) ?_
   clear f K al b4 a
   refine D4 (i:=5) (j:=9) (by kernel_rfl) rfl rfl (fun K f=>?_) (fun K f=>?_)
   ·go_simp
    refine (Gu (P.o _ ad.o) (Q.o _ ad.o) m.o).mono ?_
    rintro e y6 ⟨⟨E,D,C⟩,rfl,a7,a8,a⟩
    dsimp only [AF.v]
    replace l:=ya (l.o.up a)
    replace q:=ya (q.o.up a)
    have R:=ya a7;have an:=ya a8
    have ac:Hid (Below p.heap.size p y6):=ya (ad.o.trans (a.mono ad.o.size))
    refine f.o _ _ (fun _=>ac.o) ?_
    clear f K a7 a8 a
    refine D4 (i:=7) (j:=9) (by kernel_rfl) rfl rfl (fun K f=>?_) (fun K f=>?_)
    ·go_simp
     refine (Fm (P.o _ ac.o) (Q.o _ ac.o) m.o).mono ?_
     rintro e y8 ⟨⟨A,u,r⟩,rfl,X,aa,a⟩
     dsimp only [AF.v]
     replace l:=ya (l.o.up a)
     replace q:=ya (q.o.up a)
     replace R:=ya (R.o.up a)
     have aj:=ya X;have bm:=ya aa
     have av:Hid (Below p.heap.size p y8):=ya (ac.o.trans (a.mono ac.o.size))
     refine f.o _ _ (fun _=>av.o) ?_
     clear f K X aa a
     refine A0 (i:=8) (v:=.agg #[.slice J M O,.slice I G H,.slice E D C,.slice A u r]) rfl (by kernel_rfl) (by kernel_rfl) (by kernel_rfl) (fun _ _ _ h=>h) (by kernel_rfl) (Or.inl ⟨by rfl,?_⟩) (fun _=>av.o) ?_
     ·intro w _;go_simp
     refine A4 (i:=9) (by kernel_rfl) rfl (fun K f=>?_)
     go_simp
     have bo:Hid (Below p.heap.size p (y8.alloc (.cells j7.toArray 109))):=ya (av.o.alloc av.o.size _)
     have B:Hid ((y8.alloc (.cells j7.toArray 109)).heap[y8.heap.size]?=some (.cells j7.toArray 109 (0,0))):=ya (World.alloc_heap_new y8 (.cells j7.toArray 109))
     have T:Hid (p.heap.size<=y8.heap.size):=ya av.o.size
     obtain ⟨bA,a6⟩:∃z:Nat,z=y8.heap.size:=⟨_,rfl⟩
     rw[<-a6] at B T
     replace l:=ya (l.o.up ((yc _ _).alloc (ye _) (.cells j7.toArray 109)))
     replace q:=ya (q.o.up ((yc _ _).alloc (ye _) (.cells j7.toArray 109)))
     replace R:=ya (R.o.up ((yc _ _).alloc (ye _) (.cells j7.toArray 109)))
     replace aj:=ya (aj.o.up ((yc _ _).alloc (ye _) (.cells j7.toArray 109)))
     refine f.o _ _ (fun _=>bo.o) ?_
     clear f K
     rw[<-a6]
     clear a6
     refine A4 (i:=10) (by kernel_rfl) rfl (fun K f=>?_)
     rw[yu (by rfl)]
     refine zh 109 _ _ rfl (bA) 0 ([Value.slice J M O,.slice I G H,.slice E D C,.slice A u r].toArray) rfl rfl (Be (c:= j7) B.o (by simp)) (by kernel_rfl) (yy (by simp[Value.oneCell'])) ?_
     have g:=ya (Aw (bA) 109 [Value.slice J M O,.slice I G H,.slice E D C,.slice A u r] 0 (y8.alloc (.cells j7.toArray 109)) [] j7 [] (by simpa using B.o) rfl rfl)
     rw[yE,yG] at g
     refine f.o _ _ (by intro h;cases h) ?_
     clear f K
     obtain ⟨x4,S⟩:∃z:World,z=((y8.alloc (.cells j7.toArray 109))).setCells (bA) 0 [Value.slice J M O,.slice I G H,.slice E D C,.slice A u r]:=⟨_,rfl⟩
     rw[yN,<-S]
     rw[<-S] at g
     clear S
     refine AG (by kernel_rfl) ?_
     refine NoPanic.normal ?_
     have bn:Below (y8.alloc (.cells j7.toArray 109)).heap.size (y8.alloc (.cells j7.toArray 109)) (y8.alloc (.cells j7.toArray 109)):=yc _ _
     exact HT.o _ _ ⟨J,M,O⟩ ⟨I,G,H⟩ ⟨E,D,C⟩ ⟨A,u,r⟩ _ _ _ _ _ _ _ _ _ _ _ _ _ _ _ _ _ _ _ T.o (g.o.below bo.o T.o) g.o.row (Cb l.o g.o B.o) (Cb q.o g.o B.o) (Cb R.o g.o B.o) (Cb aj.o g.o B.o) ar.o an.o
    ·go_simp
     have ax:Hid (Below p.heap.size p (y6.alloc (.cells j7.toArray 109))):=ya (ac.o.alloc ac.o.size _)
     have B:Hid ((y6.alloc (.cells j7.toArray 109)).heap[y6.heap.size]?=some (.cells j7.toArray 109 (0,0))):=ya (World.alloc_heap_new y6 (.cells j7.toArray 109))
     have T:Hid (p.heap.size<=y6.heap.size):=ya ac.o.size
     obtain ⟨bA,a6⟩:∃z:Nat,z=y6.heap.size:=⟨_,rfl⟩
     rw[<-a6] at B T
     replace l:=ya (l.o.up ((yc _ _).alloc (ye _) (.cells j7.toArray 109)))
     replace q:=ya (q.o.up ((yc _ _).alloc (ye _) (.cells j7.toArray 109)))
     replace R:=ya (R.o.up ((yc _ _).alloc (ye _) (.cells j7.toArray 109)))
     refine f.o _ _ (fun _=>ax.o) ?_
     clear f K
     rw[<-a6]
     clear a6
     refine A4 (i:=7) (by kernel_rfl) rfl (fun K f=>?_)
     go_simp
     refine (Fm (P.o _ ax.o) (Q.o _ ax.o) m.o).mono ?_
     rintro e bd ⟨⟨A,u,r⟩,rfl,X,aa,a⟩
     dsimp only [AF.v]
     replace l:=ya (l.o.up a)
     replace q:=ya (q.o.up a)
     replace R:=ya (R.o.up a)
     have aj:=ya X;have bm:=ya aa
     replace B:=ya (Bl a B.o)
     have b9:Hid (Below p.heap.size p bd):=ya (ax.o.trans (a.mono ax.o.size))
     refine f.o _ _ (fun _=>b9.o) ?_
     clear f K X aa a
     refine A0 (i:=8) (v:=.agg #[.slice J M O,.slice I G H,.slice E D C,.slice A u r]) rfl (by kernel_rfl) (by kernel_rfl) (by kernel_rfl) (fun _ _ _ h=>h) (by kernel_rfl) (Or.inl ⟨by rfl,?_⟩) (fun _=>b9.o) ?_
     ·intro w _;go_simp
     refine A4 (i:=10) (by kernel_rfl) rfl (fun K f=>?_)
     rw[yu (by rfl)]
     refine zh 109 _ _ rfl (bA) 0 ([Value.slice J M O,.slice I G H,.slice E D C,.slice A u r].toArray) rfl rfl (Be (c:= j7) B.o (by simp)) (by kernel_rfl) (yy (by simp[Value.oneCell'])) ?_
     have g:=ya (Aw (bA) 109 [Value.slice J M O,.slice I G H,.slice E D C,.slice A u r] 0 bd [] j7 [] (by simpa using B.o) rfl rfl)
     rw[yE,yG] at g
     refine f.o _ _ (by intro h;cases h) ?_
     clear f K
     obtain ⟨x4,S⟩:∃z:World,z=(bd).setCells (bA) 0 [Value.slice J M O,.slice I G H,.slice E D C,.slice A u r]:=⟨_,rfl⟩
     rw[yN,<-S]
     rw[<-S] at g
     clear S
     refine AG (by kernel_rfl) ?_
     refine NoPanic.normal ?_
     have bn:Below bd.heap.size bd bd:=yc _ _
     exact HT.o _ _ ⟨J,M,O⟩ ⟨I,G,H⟩ ⟨E,D,C⟩ ⟨A,u,r⟩ _ _ _ _ _ _ _ _ _ _ _ _ _ _ _ _ _ _ _ T.o (g.o.below b9.o T.o) g.o.row (Cb l.o g.o B.o) (Cb q.o g.o B.o) (Cb R.o g.o B.o) (Cb aj.o g.o B.o) ar.o an.o
   ·go_simp
    have az:Hid (Below p.heap.size p (y4.alloc (.cells j7.toArray 109))):=ya (ad.o.alloc ad.o.size _)
    have B:Hid ((y4.alloc (.cells j7.toArray 109)).heap[y4.heap.size]?=some (.cells j7.toArray 109 (0,0))):=ya (World.alloc_heap_new y4 (.cells j7.toArray 109))
    have T:Hid (p.heap.size<=y4.heap.size):=ya ad.o.size
    obtain ⟨bA,a6⟩:∃z:Nat,z=y4.heap.size:=⟨_,rfl⟩
    rw[<-a6] at B T
    replace l:=ya (l.o.up ((yc _ _).alloc (ye _) (.cells j7.toArray 109)))
    replace q:=ya (q.o.up ((yc _ _).alloc (ye _) (.cells j7.toArray 109)))
    refine f.o _ _ (fun _=>az.o) ?_
    clear f K
    rw[<-a6]
    clear a6
    refine A4 (i:=5) (by kernel_rfl) rfl (fun K f=>?_)
    go_simp
    refine (Gu (P.o _ az.o) (Q.o _ az.o) m.o).mono ?_
    rintro e d4 ⟨⟨E,D,C⟩,rfl,a7,a8,a⟩
    dsimp only [AF.v]
    replace l:=ya (l.o.up a)
    replace q:=ya (q.o.up a)
    have R:=ya a7;have an:=ya a8
    replace B:=ya (Bl a B.o)
    have af:Hid (Below p.heap.size p d4):=ya (az.o.trans (a.mono az.o.size))
    refine f.o _ _ (fun _=>af.o) ?_
    clear f K a7 a8 a
    refine A4 (i:=7) (by kernel_rfl) rfl (fun K f=>?_)
    go_simp
    refine (Fm (P.o _ af.o) (Q.o _ af.o) m.o).mono ?_
    rintro e bg ⟨⟨A,u,r⟩,rfl,X,aa,a⟩
    dsimp only [AF.v]
    replace l:=ya (l.o.up a)
    replace q:=ya (q.o.up a)
    replace R:=ya (R.o.up a)
    have aj:=ya X;have bm:=ya aa
    replace B:=ya (Bl a B.o)
    have b5:Hid (Below p.heap.size p bg):=ya (af.o.trans (a.mono af.o.size))
    refine f.o _ _ (fun _=>b5.o) ?_
    clear f K X aa a
    refine A0 (i:=8) (v:=.agg #[.slice J M O,.slice I G H,.slice E D C,.slice A u r]) rfl (by kernel_rfl) (by kernel_rfl) (by kernel_rfl) (fun _ _ _ h=>h) (by kernel_rfl) (Or.inl ⟨by rfl,?_⟩) (fun _=>b5.o) ?_
    ·intro w _;go_simp
    refine A4 (i:=10) (by kernel_rfl) rfl (fun K f=>?_)
    rw[yu (by rfl)]
    refine zh 109 _ _ rfl (bA) 0 ([Value.slice J M O,.slice I G H,.slice E D C,.slice A u r].toArray) rfl rfl (Be (c:= j7) B.o (by simp)) (by kernel_rfl) (yy (by simp[Value.oneCell'])) ?_
    have g:=ya (Aw (bA) 109 [Value.slice J M O,.slice I G H,.slice E D C,.slice A u r] 0 bg [] j7 [] (by simpa using B.o) rfl rfl)
    rw[yE,yG] at g
    refine f.o _ _ (by intro h;cases h) ?_
    clear f K
    obtain ⟨x4,S⟩:∃z:World,z=(bg).setCells (bA) 0 [Value.slice J M O,.slice I G H,.slice E D C,.slice A u r]:=⟨_,rfl⟩
    rw[yN,<-S]
    rw[<-S] at g
    clear S
    refine AG (by kernel_rfl) ?_
    refine NoPanic.normal ?_
    have bn:Below bg.heap.size bg bg:=yc _ _
    exact HT.o _ _ ⟨J,M,O⟩ ⟨I,G,H⟩ ⟨E,D,C⟩ ⟨A,u,r⟩ _ _ _ _ _ _ _ _ _ _ _ _ _ _ _ _ _ _ _ T.o (g.o.below b5.o T.o) g.o.row (Cb l.o g.o B.o) (Cb q.o g.o B.o) (Cb R.o g.o B.o) (Cb aj.o g.o B.o) ar.o an.o
  ·go_simp
   have au:Hid (Below p.heap.size p (y2.alloc (.cells j7.toArray 109))):=ya (ab.o.alloc ab.o.size _)
   have B:Hid ((y2.alloc (.cells j7.toArray 109)).heap[y2.heap.size]?=some (.cells j7.toArray 109 (0,0))):=ya (World.alloc_heap_new y2 (.cells j7.toArray 109))
   have T:Hid (p.heap.size<=y2.heap.size):=ya ab.o.size
   obtain ⟨bA,a6⟩:∃z:Nat,z=y2.heap.size:=⟨_,rfl⟩
   rw[<-a6] at B T
   replace l:=ya (l.o.up ((yc _ _).alloc (ye _) (.cells j7.toArray 109)))
   refine f.o _ _ (fun _=>au.o) ?_
   clear f K
   rw[<-a6]
   clear a6
   refine A4 (i:=3) (by kernel_rfl) rfl (fun K f=>?_)
   go_simp
   refine (Ip (P.o _ au.o) (Q.o _ au.o) m.o).mono ?_
   rintro e d1 ⟨⟨I,G,H⟩,rfl,al,b4,a⟩
   dsimp only [AF.v]
   replace l:=ya (l.o.up a)
   have q:=ya al;have c8:=ya b4
   replace B:=ya (Bl a B.o)
   have ah:Hid (Below p.heap.size p d1):=ya (au.o.trans (a.mono au.o.size))
   refine f.o _ _ (fun _=>ah.o) ?_
   clear f K al b4 a
   refine A4 (i:=5) (by kernel_rfl) rfl (fun K f=>?_)
   go_simp
   refine (Gu (P.o _ ah.o) (Q.o _ ah.o) m.o).mono ?_
   rintro e d5 ⟨⟨E,D,C⟩,rfl,a7,a8,a⟩
   dsimp only [AF.v]
   replace l:=ya (l.o.up a)
   replace q:=ya (q.o.up a)
   have R:=ya a7;have an:=ya a8
   replace B:=ya (Bl a B.o)
   have am:Hid (Below p.heap.size p d5):=ya (ah.o.trans (a.mono ah.o.size))
   refine f.o _ _ (fun _=>am.o) ?_
   clear f K a7 a8 a
   refine A4 (i:=7) (by kernel_rfl) rfl (fun K f=>?_)
   go_simp
   refine (Fm (P.o _ am.o) (Q.o _ am.o) m.o).mono ?_
   rintro e bb ⟨⟨A,u,r⟩,rfl,X,aa,a⟩
   dsimp only [AF.v]
   replace l:=ya (l.o.up a)
   replace q:=ya (q.o.up a)
   replace R:=ya (R.o.up a)
   have aj:=ya X;have bm:=ya aa
   replace B:=ya (Bl a B.o)
   have b8:Hid (Below p.heap.size p bb):=ya (am.o.trans (a.mono am.o.size))
   refine f.o _ _ (fun _=>b8.o) ?_
   clear f K X aa a
   refine A0 (i:=8) (v:=.agg #[.slice J M O,.slice I G H,.slice E D C,.slice A u r]) rfl (by kernel_rfl) (by kernel_rfl) (by kernel_rfl) (fun _ _ _ h=>h) (by kernel_rfl) (Or.inl ⟨by rfl,?_⟩) (fun _=>b8.o) ?_
   ·intro w _;go_simp
   refine A4 (i:=10) (by kernel_rfl) rfl (fun K f=>?_)
   rw[yu (by rfl)]
   refine zh 109 _ _ rfl (bA) 0 ([Value.slice J M O,.slice I G H,.slice E D C,.slice A u r].toArray) rfl rfl (Be (c:= j7) B.o (by simp)) (by kernel_rfl) (yy (by simp[Value.oneCell'])) ?_
   have g:=ya (Aw (bA) 109 [Value.slice J M O,.slice I G H,.slice E D C,.slice A u r] 0 bb [] j7 [] (by simpa using B.o) rfl rfl)
   rw[yE,yG] at g
   refine f.o _ _ (by intro h;cases h) ?_
   clear f K
   obtain ⟨x4,S⟩:∃z:World,z=(bb).setCells (bA) 0 [Value.slice J M O,.slice I G H,.slice E D C,.slice A u r]:=⟨_,rfl⟩
   rw[yN,<-S]
   rw[<-S] at g
   clear S
   refine AG (by kernel_rfl) ?_
   refine NoPanic.normal ?_
   have bn:Below bb.heap.size bb bb:=yc _ _
   exact HT.o _ _ ⟨J,M,O⟩ ⟨I,G,H⟩ ⟨E,D,C⟩ ⟨A,u,r⟩ _ _ _ _ _ _ _ _ _ _ _ _ _ _ _ _ _ _ _ T.o (g.o.below b8.o T.o) g.o.row (Cb l.o g.o B.o) (Cb q.o g.o B.o) (Cb R.o g.o B.o) (Cb aj.o g.o B.o) ar.o an.o
 ·go_simp
  have ay:Hid (Below p.heap.size p (p.drew.alloc (.cells j7.toArray 109))):=ya (ag.o.alloc ag.o.size _)
  have B:Hid ((p.drew.alloc (.cells j7.toArray 109)).heap[p.heap.size]?=some (.cells j7.toArray 109 (0,0))):=ya (World.alloc_heap_new p.drew (.cells j7.toArray 109))
  have T:Hid (p.heap.size<=p.heap.size):=ya ag.o.size
  refine f.o _ _ (fun _=>ay.o) ?_
  clear f K
  refine A4 (i:=1) (by kernel_rfl) rfl (fun K f=>?_)
  go_simp
  refine (JU (P.o _ ay.o) (Q.o _ ay.o) m.o).mono ?_
  rintro e cy ⟨⟨J,M,O⟩,rfl,ao,aq,a⟩
  dsimp only [AF.v]
  have l:=ya ao;have ar:=ya aq
  replace B:=ya (Bl a B.o)
  have ak:Hid (Below p.heap.size p cy):=ya (ay.o.trans (a.mono ay.o.size))
  refine f.o _ _ (fun _=>ak.o) ?_
  clear f K ao aq a
  refine A4 (i:=3) (by kernel_rfl) rfl (fun K f=>?_)
  go_simp
  refine (Ip (P.o _ ak.o) (Q.o _ ak.o) m.o).mono ?_
  rintro e cx ⟨⟨I,G,H⟩,rfl,al,b4,a⟩
  dsimp only [AF.v]
  replace l:=ya (l.o.up a)
  have q:=ya al;have c8:=ya b4
  replace B:=ya (Bl a B.o)
  have ae:Hid (Below p.heap.size p cx):=ya (ak.o.trans (a.mono ak.o.size))
  refine f.o _ _ (fun _=>ae.o) ?_
  clear f K al b4 a
  refine A4 (i:=5) (by kernel_rfl) rfl (fun K f=>?_)
  go_simp
  refine (Gu (P.o _ ae.o) (Q.o _ ae.o) m.o).mono ?_
  rintro e cu ⟨⟨E,D,C⟩,rfl,a7,a8,a⟩
  dsimp only [AF.v]
  replace l:=ya (l.o.up a)
  replace q:=ya (q.o.up a)
  have R:=ya a7;have an:=ya a8
  replace B:=ya (Bl a B.o)
  have ai:Hid (Below p.heap.size p cu):=ya (ae.o.trans (a.mono ae.o.size))
  refine f.o _ _ (fun _=>ai.o) ?_
  clear f K a7 a8 a
  refine A4 (i:=7) (by kernel_rfl) rfl (fun K f=>?_)
  go_simp
  refine (Fm (P.o _ ai.o) (Q.o _ ai.o) m.o).mono ?_
  rintro e be ⟨⟨A,u,r⟩,rfl,X,aa,a⟩
  dsimp only [AF.v]
  replace l:=ya (l.o.up a)
  replace q:=ya (q.o.up a)
  replace R:=ya (R.o.up a)
  have aj:=ya X;have bm:=ya aa
  replace B:=ya (Bl a B.o)
  have b7:Hid (Below p.heap.size p be):=ya (ai.o.trans (a.mono ai.o.size))
  refine f.o _ _ (fun _=>b7.o) ?_
  clear f K X aa a
  refine A0 (i:=8) (v:=.agg #[.slice J M O,.slice I G H,.slice E D C,.slice A u r]) rfl (by kernel_rfl) (by kernel_rfl) (by kernel_rfl) (fun _ _ _ h=>h) (by kernel_rfl) (Or.inl ⟨by rfl,?_⟩) (fun _=>b7.o) ?_
  ·intro w _;go_simp
  refine A4 (i:=10) (by kernel_rfl) rfl (fun K f=>?_)
  rw[yu (by rfl)]
  refine zh 109 _ _ rfl (p.heap.size) 0 ([Value.slice J M O,.slice I G H,.slice E D C,.slice A u r].toArray) rfl rfl (Be (c:= j7) B.o (by simp)) (by kernel_rfl) (yy (by simp[Value.oneCell'])) ?_
  have g:=ya (Aw (p.heap.size) 109 [Value.slice J M O,.slice I G H,.slice E D C,.slice A u r] 0 be [] j7 [] (by simpa using B.o) rfl rfl)
  rw[yE,yG] at g
  refine f.o _ _ (by intro h;cases h) ?_
  clear f K
  obtain ⟨x4,S⟩:∃z:World,z=(be).setCells (p.heap.size) 0 [Value.slice J M O,.slice I G H,.slice E D C,.slice A u r]:=⟨_,rfl⟩
  rw[yN,<-S]
  rw[<-S] at g
  clear S
  refine AG (by kernel_rfl) ?_
  refine NoPanic.normal ?_
  have bn:Below be.heap.size be be:=yc _ _
  exact HT.o _ _ ⟨J,M,O⟩ ⟨I,G,H⟩ ⟨E,D,C⟩ ⟨A,u,r⟩ _ _ _ _ _ _ _ _ _ _ _ _ _ _ _ _ _ _ _ T.o (g.o.below b7.o T.o) g.o.row (Cb l.o g.o B.o) (Cb q.o g.o B.o) (Cb R.o g.o B.o) (Cb aj.o g.o B.o) ar.o an.o
end Go.Proofs.Ytghepahgkcigpaa
