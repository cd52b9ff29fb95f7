/- The reference's head (printed by gen_yr.py). -/
import Derived.Test.YtghepahgkcigpaaQ0
import Derived.Test.YtghepahgkcigpaaQ11
set_option maxRecDepth 100000
set_option maxHeartbeats 64000000
set_option linter.unusedSimpArgs false
namespace Go.Proofs.Ytghepahgkcigpaa
open Go.RowKit
theorem Ly{w:World}{h:AF}{sz j i:Nat}{d:LB}(f:AZ w h sz j d)(hi:i<=d.length):AZ w ⟨h.a,i,h.c⟩ sz j (d.take i):=by
 obtain ⟨h1,h2,h3⟩:=f
 have hl:(d.take i).length=i:=by simp;omega
 refine ⟨hl.symm,by omega,fun k e=>?_⟩
 rw[hl] at e
 obtain ⟨b,o,cs,p,l,m,n,q,r,g⟩:=h3 k (by omega)
 rw[List.getElem_take]
 exact ⟨b,o,cs,p,l,m,n,q,r,g⟩
theorem Hz{α:Type}{l:List α}{i:Nat}(h:i < l.length):l.zipIdx.take (i+1)=l.zipIdx.take i++[(l[i],i)]:=by
 rw[yr (by simpa using h)]
 simp
theorem OK{α:Type}{l:List α}{p:α × Nat->Bool}:(l.zipIdx.take l.length).all p=l.zipIdx.all p:=by
 rw[zX (by simp)]
theorem OL{α β:Type}{l:List α}{f:α × Nat->β}:(l.zipIdx.take l.length).map f=l.zipIdx.map f:=by
 rw[zX (by simp)]
theorem UC{α β:Type}{l:List α}{f:α->β}:(l.zipIdx.map fun p=>f p.1)=l.map f:=by
 refine zw (by simp) fun i h1 h2=>?_
 simp
section
variable{F:NP}{l:List Nat}{B C:Nat}{wr W W':World}{ty:TypeId}{row row':LV}
theorem Tx.call(h:Tx F l B C wr ty row W)(a:C<=wr.heap.size)(hb:Below W.heap.size W W'):Tx F l B C wr ty row W':=⟨h.rnd.call hb a,(hb.block _ h.lt).trans h.x⟩
theorem Tx.set(h:Tx F l B C wr ty row W)(b:C<=wr.heap.size)(a:AB W W' wr.heap.size row' ty):Tx F l B C wr ty row' W':=⟨h.rnd.wrote a (.inr (ye _)) b,a.row⟩
end
def Mw(t:Tb)(x:AA):AA:={x with season:=BR t.lets x.season,cap:=BR t.lets x.cap,start:=BR t.lets x.start,lets:=x.lets.zipIdx.map fun p=>EU t p.1 p.2,crops:=x.crops.map (Eu t)}
def VS(L:BL)(N:NP)(w:World)(cs:LV)(x:AA):Prop:=x.name.size<=maxLen∧∃(c0 c1 c2:LV) (hl hc:AF),cs=.string x.name::(c0++(c1++(c2++[hl.v,hc.v,L.reaches.v,L.farms.v,L.rots.v,L.rights.v,L.duties.v])))∧
 Bh N w x.season c0∧Bh N w x.cap c1∧Bh N w x.start c2∧B7 N w 7 (Hf N w) hl x.lets∧B7 N w 7 (F6 N w) hc x.crops
theorem UD{x:AA}{L:BL}{F:NP}{w:World}{cs ls:LV}{h0 h1 h2 h3:AF}{t:Tb}(hv:Ba (GF F w) w L cs x)(hs:MN w ls h0 h1 h2 h3 t)(hF:∀b,F b->b < w.heap.size)(dw:h0.n<=h0.c)(ew:x.lets.length=t.lets.length)(ei:x.lets.length<=100000)(f4:x.crops.length<=100000):
  Calls Try.prog 56 #[.agg cs.toArray,.agg ls.toArray] w (ES (VS L) F w (Ji t x) (Mw t x)):=by
 obtain ⟨ej,⟨c0,c1,c2,rfl,e8,bp,P⟩,hlets,hcrops,_,_,_,_,_⟩:=hv
 obtain ⟨sn,e0,e1,e2,xs,ys,kr,kf,ko,kg,kd⟩:=x
 obtain ⟨Ls,⟨la,ln,lc⟩,⟨ca,Y,cc⟩,⟨p0,q0,r0⟩,⟨p1,E,r1⟩,⟨p2,G,r2⟩,⟨p3,A,r3⟩,⟨p4,q4,r4⟩,Lt⟩:=L
 have cm:=ya hlets.2.2
 have c6:=ya hcrops.2.2
 have az:Hid (ln=xs.length):=ya hlets.1
 have ai:Hid (Y=ys.length):=ya hcrops.1
 have bt:Hid (xs.length<=100000):=ya ei
 have b4:Hid (ys.length<=100000):=ya f4
 have fd:Hid (ln<=140737488355328):=ya (by have:=az.o;have:=bt.o;omega)
 have f9:Hid (Y<=140737488355328):=ya (by have:=ai.o;have:=b4.o;omega)
 have ey:=ya dw
 have fc:Hid (xs.length=t.lets.length):=ya ew
 have f6:Hid (sn.size<=maxLen):=ya ej
 have HS:=ya hs
 have HF:=ya hF
 unfold AF.v
 simp only at cm c6 ⊢
 clear hs hF hlets hcrops ei f4 dw ew ej
 go_enter Try.func56,Try.ntmps56
 go_upto_region 1 with (first|(refine AR rfl 35 _ rfl (.string sn::(c0++(c1++(c2++(.slice la ln lc::(.slice ca Y cc::(.slice p0 q0 r0::(.slice p1 E r1::(.slice p2 G r2::(.slice p3 A r3::([.slice p4 q4 r4]))))))))))).toArray rfl ?_)|(refine AR rfl 109 _ rfl ls.toArray rfl ?_))
 obtain ⟨w1,bw⟩:∃z:World,z=((w.alloc (.cells (.string sn::(c0++(c1++(c2++(.slice la ln lc::(.slice ca Y cc::(.slice p0 q0 r0::(.slice p1 E r1::(.slice p2 G r2::(.slice p3 A r3::([.slice p4 q4 r4]))))))))))).toArray 35)).alloc (.cells ls.toArray 109)).alloc (.cells jb 35):=⟨_,rfl⟩
 rw[<-bw]
 have Q:=ya (FF (n:=26) (row:=.string sn::(c0++(c1++(c2++(.slice la ln lc::(.slice ca Y cc::(.slice p0 q0 r0::(.slice p1 E r1::(.slice p2 G r2::(.slice p3 A r3::([.slice p4 q4 r4]))))))))))) bw rfl rfl)
 clear bw
 have HV:Hid (VE F [w.heap.size,w.heap.size+2] w1 [c0,c1,c2] [e0,e1,e2]):=ya (FH ⟨e8,bp,P,trivial⟩ Q.o.below (by intro k s;simp at s;omega))
 have co:=ya (e8).len
 have df:=ya (bp).len
 have e4:=ya (P).len
 clear e8 bp P
 have HP:Hid (.string sn::(c0++(c1++(c2++(.slice la ln lc::(.slice ca Y cc::(.slice p0 q0 r0::(.slice p1 E r1::(.slice p2 G r2::(.slice p3 A r3::([.slice p4 q4 r4]))))))))))=([.string sn])++((c0)++(c1++(c2++(.slice la ln lc::(.slice ca Y cc::(.slice p0 q0 r0::(.slice p1 E r1::(.slice p2 G r2::(.slice p3 A r3::([.slice p4 q4 r4]))))))))))):=ya (by first|rfl|simp[yg])
 have cf:=ya (Q.o.part HP.o (off:=1) (by simp))
 obtain ⟨l0,l1,l2,l3⟩:=Q.o.scope HS.o.cells
 obtain ⟨v0,v1,v2,_⟩:=HV.o
 have HC:=ya (BD (F:=FL F [w.heap.size,w.heap.size+2]) (HS.o.lets.up Q.o.below) v0 (Br HF.o Q.o (by have h1:=Q.o.size;intro k s;simp at s;omega)))
 generalize hq:Dp t.lets e0=q1 at HC
 generalize hm:BR t.lets e0=m1 at HC
 have fk:=ya hq;have fb:=ya hm
 clear hq hm v0 v1 v2
 go_upto_region 2 with (first
  |(refine yf rfl 26 _ rfl w.heap.size 1 rfl c0 _ cf.o qF rfl (AE co.o) ?_)
  |(go_at_call 87;refine HC.o.mono ?_;rintro e ao ⟨u,b5,rfl,P,a7,S⟩;have M:=ya P;have fj:=ya a7;have y:=ya S;have T:=ya P.len;clear P a7 S)
  |(refine A2 rfl 26 _ _ rfl (ao.heap.size) rfl u rfl (World.alloc_heap_new _ _) (by rw[M.o.len];rfl) (AE M.o.len) (A8 M.o) ?_;intro cj bi;have al:=ya bi;clear bi))
 clear l0 l1 l2 l3
 have bh:Hid (Below ao.heap.size ao cj):=ya (al.o.below ((yc _ _).alloc (ye _) _) (ye _))
 have a6:Hid (Below w1.heap.size w1 cj):=ya (y.o.trans (bh.o.mono y.o.size))
 have X:Hid (VE F [w.heap.size,w.heap.size+2] cj [c0,c1,c2,u] [e0,e1,e2,b5]):=ya (by
  have hu:=HV.o.up (AP.below a6.o) (fun k s=>.inl s)
  obtain ⟨v0,v1,v2,_⟩:=hu
  exact ⟨v0,v1,v2,M.o.fl (AP.below bh.o) (fun k s=>.inl s),trivial⟩)
 have aw:Hid (ao.heap.size < cj.heap.size∧w.heap.size+3<=ao.heap.size∧cj.heap[ao.heap.size]?=some (.cells u.toArray 26 (0,0))):=ya ⟨(yd.1 al.o.row).1,yo Q.o.size y.o.size,al.o.row⟩
 have a2:=ya (Q.o.call a6.o)
 clear Q HV M y bh a6 al HP cf HC
 have Q:=a2;have HV:=X
 clear a2 X
 have HP:Hid (.string sn::(c0++(c1++(c2++(.slice la ln lc::(.slice ca Y cc::(.slice p0 q0 r0::(.slice p1 E r1::(.slice p2 G r2::(.slice p3 A r3::([.slice p4 q4 r4]))))))))))=(.string sn::(c0))++((c1)++(c2++(.slice la ln lc::(.slice ca Y cc::(.slice p0 q0 r0::(.slice p1 E r1::(.slice p2 G r2::(.slice p3 A r3::([.slice p4 q4 r4])))))))))):=ya (by first|rfl|simp[yg])
 have cf:=ya (Q.o.part HP.o (off:=7) (by simp[co.o]))
 obtain ⟨l0,l1,l2,l3⟩:=Q.o.scope HS.o.cells
 obtain ⟨v0,v1,v2,v3,_⟩:=HV.o
 have HC:=ya (BD (F:=FL F [w.heap.size,w.heap.size+2]) (HS.o.lets.up Q.o.below) v1 (Br HF.o Q.o (by have h1:=Q.o.size;intro k s;simp at s;omega)))
 generalize hq:Dp t.lets e1=q2 at HC
 generalize hm:BR t.lets e1=m2 at HC
 have fh:=ya hq;have fg:=ya hm
 clear hq hm v0 v1 v2 v3
 go_upto_region 3 with (first
  |(refine yf rfl 26 _ rfl w.heap.size 7 rfl c1 _ cf.o qF rfl (AE df.o) ?_)
  |(go_at_call 87;refine HC.o.mono ?_;rintro e am ⟨I,bm,rfl,P,a7,S⟩;have M:=ya P;have fe:=ya a7;have y:=ya S;have a0:=ya P.len;clear P a7 S)
  |(refine A2 rfl 26 _ _ rfl (am.heap.size) rfl I rfl (World.alloc_heap_new _ _) (by rw[M.o.len];rfl) (AE M.o.len) (A8 M.o) ?_;intro bs bi;have al:=ya bi;clear bi))
 clear l0 l1 l2 l3
 have bh:Hid (Below am.heap.size am bs):=ya (al.o.below ((yc _ _).alloc (ye _) _) (ye _))
 have a6:Hid (Below cj.heap.size cj bs):=ya (y.o.trans (bh.o.mono y.o.size))
 have X:Hid (VE F [w.heap.size,w.heap.size+2] bs [c0,c1,c2,u,I] [e0,e1,e2,b5,bm]):=ya (by
  have hu:=HV.o.up (AP.below a6.o) (fun k s=>.inl s)
  obtain ⟨v0,v1,v2,v3,_⟩:=hu
  exact ⟨v0,v1,v2,v3,M.o.fl (AP.below bh.o) (fun k s=>.inl s),trivial⟩)
 have ay:Hid (am.heap.size < bs.heap.size∧w.heap.size+3<=am.heap.size∧bs.heap[am.heap.size]?=some (.cells I.toArray 26 (0,0))):=ya ⟨(yd.1 al.o.row).1,yo Q.o.size y.o.size,al.o.row⟩
 replace aw:Hid (ao.heap.size < bs.heap.size∧w.heap.size+3<=ao.heap.size∧bs.heap[ao.heap.size]?=some (.cells u.toArray 26 (0,0))):=ya ⟨yk aw.o.1 a6.o.size,aw.o.2.1,(a6.o.block _ aw.o.1).trans aw.o.2.2⟩
 have a2:=ya (Q.o.call a6.o)
 clear Q HV M y bh a6 al HP cf HC
 have Q:=a2;have HV:=X
 clear a2 X
 have HP:Hid (.string sn::(c0++(c1++(c2++(.slice la ln lc::(.slice ca Y cc::(.slice p0 q0 r0::(.slice p1 E r1::(.slice p2 G r2::(.slice p3 A r3::([.slice p4 q4 r4]))))))))))=(.string sn::(c0++(c1)))++((c2)++(.slice la ln lc::(.slice ca Y cc::(.slice p0 q0 r0::(.slice p1 E r1::(.slice p2 G r2::(.slice p3 A r3::([.slice p4 q4 r4]))))))))):=ya (by first|rfl|simp[yg])
 have cf:=ya (Q.o.part HP.o (off:=13) (by simp[co.o,df.o]))
 obtain ⟨l0,l1,l2,l3⟩:=Q.o.scope HS.o.cells
 obtain ⟨v0,v1,v2,v3,v4,_⟩:=HV.o
 have HC:=ya (BD (F:=FL F [w.heap.size,w.heap.size+2]) (HS.o.lets.up Q.o.below) v2 (Br HF.o Q.o (by have h1:=Q.o.size;intro k s;simp at s;omega)))
 generalize hq:Dp t.lets e2=q3 at HC
 generalize hm:BR t.lets e2=m3 at HC
 have fm:=ya hq;have fp:=ya hm
 clear hq hm v0 v1 v2 v3 v4
 go_upto_region 4 with (first
  |(refine yf rfl 26 _ rfl w.heap.size 13 rfl c2 _ cf.o qF rfl (AE e4.o) ?_)
  |(go_at_call 87;refine HC.o.mono ?_;rintro e an ⟨O,bv,rfl,P,a7,S⟩;have M:=ya P;have fa:=ya a7;have y:=ya S;have ac:=ya P.len;clear P a7 S)
  |(refine A2 rfl 26 _ _ rfl (an.heap.size) rfl O rfl (World.alloc_heap_new _ _) (by rw[M.o.len];rfl) (AE M.o.len) (A8 M.o) ?_;intro b9 bi;have al:=ya bi;clear bi))
 clear l0 l1 l2 l3
 have bh:Hid (Below an.heap.size an b9):=ya (al.o.below ((yc _ _).alloc (ye _) _) (ye _))
 have a6:Hid (Below bs.heap.size bs b9):=ya (y.o.trans (bh.o.mono y.o.size))
 have X:Hid (VE F [w.heap.size,w.heap.size+2] b9 [c0,c1,c2,u,I,O] [e0,e1,e2,b5,bm,bv]):=ya (by
  have hu:=HV.o.up (AP.below a6.o) (fun k s=>.inl s)
  obtain ⟨v0,v1,v2,v3,v4,_⟩:=hu
  exact ⟨v0,v1,v2,v3,v4,M.o.fl (AP.below bh.o) (fun k s=>.inl s),trivial⟩)
 have ax:Hid (an.heap.size < b9.heap.size∧w.heap.size+3<=an.heap.size∧b9.heap[an.heap.size]?=some (.cells O.toArray 26 (0,0))):=ya ⟨(yd.1 al.o.row).1,yo Q.o.size y.o.size,al.o.row⟩
 replace aw:Hid (ao.heap.size < b9.heap.size∧w.heap.size+3<=ao.heap.size∧b9.heap[ao.heap.size]?=some (.cells u.toArray 26 (0,0))):=ya ⟨yk aw.o.1 a6.o.size,aw.o.2.1,(a6.o.block _ aw.o.1).trans aw.o.2.2⟩
 replace ay:Hid (am.heap.size < b9.heap.size∧w.heap.size+3<=am.heap.size∧b9.heap[am.heap.size]?=some (.cells I.toArray 26 (0,0))):=ya ⟨yk ay.o.1 a6.o.size,ay.o.2.1,(a6.o.block _ ay.o.1).trans ay.o.2.2⟩
 have a2:=ya (Q.o.call a6.o)
 clear Q HV M y bh a6 al HP cf HC
 have Q:=a2;have HV:=X
 clear a2 X
 have HP:Hid (.string sn::(c0++(c1++(c2++(.slice la ln lc::(.slice ca Y cc::(.slice p0 q0 r0::(.slice p1 E r1::(.slice p2 G r2::(.slice p3 A r3::([.slice p4 q4 r4]))))))))))=([.string sn])++((c0)++(c1++(c2++(.slice la ln lc::(.slice ca Y cc::(.slice p0 q0 r0::(.slice p1 E r1::(.slice p2 G r2::(.slice p3 A r3::([.slice p4 q4 r4]))))))))))):=ya (by first|rfl|simp[yg])
 have ad:Hid (b9.heap[w.heap.size]?=some (.cells (([.string sn])++((c0)++(c1++(c2++(.slice la ln lc::(.slice ca Y cc::(.slice p0 q0 r0::(.slice p1 E r1::(.slice p2 G r2::(.slice p3 A r3::([.slice p4 q4 r4])))))))))):LV).toArray 35 (0,0))):=ya (by have h:=Q.o.x;rw[HP.o] at h;exact h)
 obtain ⟨x0,x1,x2,v0,v1,v2,_⟩:=HV.o
 have V:=ya (A8 v0)
 clear x0 x1 x2 v0 v1 v2
 go_upto_region 5 with (first
  |(refine yf rfl 26 _ rfl (ao.heap.size) 0 rfl u _ (A6 aw.o.2.2) qF rfl (AE T.o) ?_)
  |(refine A7 rfl 26 _ _ rfl w.heap.size 1 rfl u rfl (p:=([.string sn])) (m:=(c0)) (q:=(c1++(c2++(.slice la ln lc::(.slice ca Y cc::(.slice p0 q0 r0::(.slice p1 E r1::(.slice p2 G r2::(.slice p3 A r3::([.slice p4 q4 r4])))))))))) (t:=35) ad.o (by simp) (by rw[co.o,T.o]) (AE T.o) V.o ?_;intro cg aa;have f:Hid (AB b9 cg w.heap.size (.string sn::(u++(c1++(c2++(.slice la ln lc::(.slice ca Y cc::(.slice p0 q0 r0::(.slice p1 E r1::(.slice p2 G r2::(.slice p3 A r3::([.slice p4 q4 r4]))))))))))) 35):=ya (by simpa[yg] using aa);clear aa))
 have a2:=ya (Q.o.wrote f.o)
 have X:=ya (HV.o.up (f.o.flux (.inr (by simp))) (fun k s=>.inl s))
 replace ay:Hid (am.heap.size < cg.heap.size∧w.heap.size+3<=am.heap.size∧cg.heap[am.heap.size]?=some (.cells I.toArray 26 (0,0))):=ya ⟨by rw[f.o.size];exact ay.o.1,ay.o.2.1,(f.o.block _ (by have:=ay.o.2.1;omega)).trans ay.o.2.2⟩
 replace ax:Hid (an.heap.size < cg.heap.size∧w.heap.size+3<=an.heap.size∧cg.heap[an.heap.size]?=some (.cells O.toArray 26 (0,0))):=ya ⟨by rw[f.o.size];exact ax.o.1,ax.o.2.1,(f.o.block _ (by have:=ax.o.2.1;omega)).trans ax.o.2.2⟩
 clear Q HV ad HP f V aw
 have Q:=a2;have HV:=X
 clear a2 X
 have HP:Hid (.string sn::(u++(c1++(c2++(.slice la ln lc::(.slice ca Y cc::(.slice p0 q0 r0::(.slice p1 E r1::(.slice p2 G r2::(.slice p3 A r3::([.slice p4 q4 r4]))))))))))=(.string sn::(u))++((c1)++(c2++(.slice la ln lc::(.slice ca Y cc::(.slice p0 q0 r0::(.slice p1 E r1::(.slice p2 G r2::(.slice p3 A r3::([.slice p4 q4 r4])))))))))):=ya (by first|rfl|simp[yg])
 have ad:Hid (cg.heap[w.heap.size]?=some (.cells ((.string sn::(u))++((c1)++(c2++(.slice la ln lc::(.slice ca Y cc::(.slice p0 q0 r0::(.slice p1 E r1::(.slice p2 G r2::(.slice p3 A r3::([.slice p4 q4 r4]))))))))):LV).toArray 35 (0,0))):=ya (by have h:=Q.o.x;rw[HP.o] at h;exact h)
 obtain ⟨x0,x1,x2,v0,v1,v2,_⟩:=HV.o
 have V:=ya (A8 v1)
 clear x0 x1 x2 v0 v1 v2
 go_upto_region 6 with (first
  |(refine yf rfl 26 _ rfl (am.heap.size) 0 rfl I _ (A6 ay.o.2.2) qF rfl (AE a0.o) ?_)
  |(refine A7 rfl 26 _ _ rfl w.heap.size 7 rfl I rfl (p:=(.string sn::(u))) (m:=(c1)) (q:=(c2++(.slice la ln lc::(.slice ca Y cc::(.slice p0 q0 r0::(.slice p1 E r1::(.slice p2 G r2::(.slice p3 A r3::([.slice p4 q4 r4]))))))))) (t:=35) ad.o (by simp[T.o]) (by rw[df.o,a0.o]) (AE a0.o) V.o ?_;intro dg aa;have f:Hid (AB cg dg w.heap.size (.string sn::(u++(I++(c2++(.slice la ln lc::(.slice ca Y cc::(.slice p0 q0 r0::(.slice p1 E r1::(.slice p2 G r2::(.slice p3 A r3::([.slice p4 q4 r4]))))))))))) 35):=ya (by simpa[yg] using aa);clear aa))
 have a2:=ya (Q.o.wrote f.o)
 have X:=ya (HV.o.up (f.o.flux (.inr (by simp))) (fun k s=>.inl s))
 replace ax:Hid (an.heap.size < dg.heap.size∧w.heap.size+3<=an.heap.size∧dg.heap[an.heap.size]?=some (.cells O.toArray 26 (0,0))):=ya ⟨by rw[f.o.size];exact ax.o.1,ax.o.2.1,(f.o.block _ (by have:=ax.o.2.1;omega)).trans ax.o.2.2⟩
 clear Q HV ad HP f V ay
 have Q:=a2;have HV:=X
 clear a2 X
 have HP:Hid (.string sn::(u++(I++(c2++(.slice la ln lc::(.slice ca Y cc::(.slice p0 q0 r0::(.slice p1 E r1::(.slice p2 G r2::(.slice p3 A r3::([.slice p4 q4 r4]))))))))))=(.string sn::(u++(I)))++((c2)++(.slice la ln lc::(.slice ca Y cc::(.slice p0 q0 r0::(.slice p1 E r1::(.slice p2 G r2::(.slice p3 A r3::([.slice p4 q4 r4]))))))))):=ya (by first|rfl|simp[yg])
 have ad:Hid (dg.heap[w.heap.size]?=some (.cells ((.string sn::(u++(I)))++((c2)++(.slice la ln lc::(.slice ca Y cc::(.slice p0 q0 r0::(.slice p1 E r1::(.slice p2 G r2::(.slice p3 A r3::([.slice p4 q4 r4])))))))):LV).toArray 35 (0,0))):=ya (by have h:=Q.o.x;rw[HP.o] at h;exact h)
 obtain ⟨x0,x1,x2,v0,v1,v2,_⟩:=HV.o
 have V:=ya (A8 v2)
 clear x0 x1 x2 v0 v1 v2
 go_upto_region 7 with (first
  |(refine yf rfl 26 _ rfl (an.heap.size) 0 rfl O _ (A6 ax.o.2.2) qF rfl (AE ac.o) ?_)
  |(refine A7 rfl 26 _ _ rfl w.heap.size 13 rfl O rfl (p:=(.string sn::(u++(I)))) (m:=(c2)) (q:=(.slice la ln lc::(.slice ca Y cc::(.slice p0 q0 r0::(.slice p1 E r1::(.slice p2 G r2::(.slice p3 A r3::([.slice p4 q4 r4])))))))) (t:=35) ad.o (by simp[T.o,a0.o]) (by rw[e4.o,ac.o]) (AE ac.o) V.o ?_;intro dq aa;have f:Hid (AB dg dq w.heap.size (.string sn::(u++(I++(O++(.slice la ln lc::(.slice ca Y cc::(.slice p0 q0 r0::(.slice p1 E r1::(.slice p2 G r2::(.slice p3 A r3::([.slice p4 q4 r4]))))))))))) 35):=ya (by simpa[yg] using aa);clear aa))
 have a2:=ya (Q.o.wrote f.o)
 have X:=ya (HV.o.up (f.o.flux (.inr (by simp))) (fun k s=>.inl s))
 clear Q HV ad HP f V ax
 have Q:=a2;have HV:=X
 clear a2 X
 have X:Hid (VE F [w.heap.size,w.heap.size+2] dq [u,I,O] [b5,bm,bv]):=ya (by
  obtain ⟨x0,x1,x2,v0,v1,v2,_⟩:=HV.o
  exact ⟨v0,v1,v2,trivial⟩)
 clear HV
 have HV:=X
 clear X
 go_upto_region 8 with (first
  |(refine Ae q1 rfl _ rfl rfl ?_)
  |(refine Ak (g:=q1) rfl _ _ _ rfl rfl (.bool (q1&&q2)) (by cases q1<;>rfl) ?_;generalize N:(q1&&q2)=b1;have e3:=ya N;clear N)
  |(refine Ab (g:=q1) z7 rfl ?_;simp only[CW,Aa])
  |(refine Ab (g:=q1) (Av q1) rfl ?_;simp only[CW,Aa])
  |(rw[AD q1 (q2)];generalize N:(q1&&q2)=b1;have e3:=ya N;clear N)
  |(refine Ae b1 rfl _ rfl rfl ?_)
  |(refine Ak (g:=b1) rfl _ _ _ rfl rfl (.bool (b1&&q3)) (by cases b1<;>rfl) ?_;generalize N:(b1&&q3)=b2;have e5:=ya N;clear N)
  |(refine Ab (g:=b1) z7 rfl ?_;simp only[CW,Aa])
  |(refine Ab (g:=b1) (Av b1) rfl ?_;simp only[CW,Aa])
  |(rw[AD b1 (q3)];generalize N:(b1&&q3)=b2;have e5:=ya N;clear N))
 obtain ⟨R0,hR⟩:∃R:LV,R=.string sn::(u++(I++(O++(.slice la ln lc::(.slice ca Y cc::(.slice p0 q0 r0::(.slice p1 E r1::(.slice p2 G r2::(.slice p3 A r3::([.slice p4 q4 r4])))))))))):=⟨_,rfl⟩
 obtain ⟨B0,hB⟩:∃B:Nat,B=dq.heap.size:=⟨_,rfl⟩
 have af:Hid (w.heap.size+3<=B0):=ya (by rw[hB];exact Q.o.size)
 have HJ:Hid (DQ Hf 55 7 B0 F [w.heap.size,w.heap.size+2] (fun l W=>(fun _ W=>Bx w 35 ls 26 R0 W) l W∧(fun l W=>VE F l W [u,I,O] [b5,bm,bv]) l W) (fun i=>b2&&(xs.zipIdx.take i).all fun p=>H7 t p.1 p.2) (fun i=>(xs.zipIdx.take i).map fun p=>EU t p.1 p.2) 0 b2 (.slice none 0 0) dq):=ya (by
  refine ⟨⟨by rw[hR];exact Q.o,by simpa[ob,Value.ownBlock] using HV.o⟩,⟨[],FM,rfl,fun _=>rfl⟩,by simp,by rw[hB];exact ye _⟩)
 have cl:=ya hR;have ea:=ya hB
 clear Q HV hR hB
 go_wp2
 go_loopw [7,12,13] (fun v7 f7 iv wr=>∃(i:Nat) (b:Bool),v7=.bool b∧iv=iV i∧i<=ln∧Hid (DQ Hf 55 7 B0 F [w.heap.size,w.heap.size+2] (fun l W=>(fun _ W=>Bx w 35 ls 26 R0 W) l W∧(fun l W=>VE F l W [u,I,O] [b5,bm,bv]) l W) (fun i=>b2&&(xs.zipIdx.take i).all fun p=>H7 t p.1 p.2) (fun i=>(xs.zipIdx.take i).map fun p=>EU t p.1 p.2) i b f7 wr)) (fun _ _ iv _=>ln - (intOf iv).toNat)
 case atStart=>exact ⟨0,b2,rfl,rfl,yv _,HJ⟩
 case round=>
  clear HJ
  obtain ⟨i,b,rfl,rfl,hi,HJ⟩:=hrel
  have a1:=ya HJ.o.ex.1
  have hf:=CL (a1.o.part (p:=.string sn::(u++(I++(O)))) (m:=[.slice la ln lc]) (q:=.slice ca Y cc::(.slice p0 q0 r0::(.slice p1 E r1::(.slice p2 G r2::(.slice p3 A r3::([.slice p4 q4 r4])))))) (off:=19) (by rw[cl.o];first|rfl|simp[yg]) (by simp[T.o,a0.o,ac.o]))
  have er:ln<=140737488355328:=fd.o
  by_cases e7:i < ln
  ·have bj:i < xs.length:=by rw[<-az.o];exact e7
   have ci:(i:Int) < (ln:Int):=by omega
   obtain ⟨bq,oq,fi,he,d1,e9,d2,db⟩:=cm.o i bj
   obtain rfl:la=some (aV bq oq):=he
   have ag:Hid ((fun i=>b2&&(xs.zipIdx.take i).all fun p=>H7 t p.1 p.2) (i+1)=(b&&Dp (t.lets.take i) xs[i].value)):=ya (by
    have h1:b=(b2&&(xs.zipIdx.take i).all fun p=>H7 t p.1 p.2):=HJ.o.b
    show (b2&&(xs.zipIdx.take (i+1)).all fun p=>H7 t p.1 p.2)=_
    rw[Hz bj,z8,zb,zn,zj,<-zM,<-h1];rfl)
   have bn:Hid ((fun i=>(xs.zipIdx.take i).map fun p=>EU t p.1 p.2) (i+1)=(fun i=>(xs.zipIdx.take i).map fun p=>EU t p.1 p.2) i++[⟨xs[i].name,BR (t.lets.take i) xs[i].value⟩]):=ya (by
    show (xs.zipIdx.take (i+1)).map (fun p=>EU t p.1 p.2)=_
    rw[Hz bj,ze];rfl)
   have dm:Hid (i+1<=1000000):=ya (by have:=bt.o;omega)
   generalize hD:xs[i]=D at db ag bn
   clear hD
   obtain ⟨dn,et⟩:=D
   obtain ⟨d9,ct,rfl,bg⟩:=db
   have du:=ya bg
   have bo:=ya bg.len
   have dh:Hid (wr.rangeAt bq (oq+i*7) (.string dn::ct)):=ya (A1 d2 (a1.o.below.block bq d1.2))
   have dp:=ya d9
   have bu:Hid ((.string dn::ct:LV).length=7):=ya (by simp[bg.len])
   have be:Hid (∀v∈(.string dn::ct:LV),v.oneCell'=true):=ya (An rfl (A8 bg))
   have bd:Hid (w.heap.size+3<=wr.heap.size):=ya a1.o.size
   have eb:Hid (i < t.lets.length):=ya (by rw[<-fc.o];exact bj)
   clear d2 bg d9 e9 d1 bj
   go_upto_region 13 with (first
    |(refine yf rfl 55 _ rfl bq (oq+i*7) rfl (.string dn::ct) _ dh.o qT rfl (AX (n:=7) (by kernel_rfl) bu.o) ?_)
    |(refine A2 rfl 55 _ _ rfl wr.heap.size rfl (.string dn::ct) rfl (World.alloc_heap_new _ _) (by rw[bu.o];rfl) (AX (n:=7) (by kernel_rfl) bu.o) be.o ?_;intro x1 bp;have cr:=ya bp;clear bp))
   have HT:=ya (Mn (F:=F) (l:=[w.heap.size,w.heap.size+2]) (B:=B0) (C:=w.heap.size+3) bd.o cr.o)
   clear cr dh ci hf bu be
   have Z:=ya (a1.o.up HT.o.rnd.below)
   obtain ⟨l0,l1,l2,l3⟩:=Z.o.scope HS.o.cells
   have cq:=ya (HT.o.part (p:=[.string dn]) (m:=ct) (q:=[]) (off:=1) (by simp) rfl)
   have bk:Hid (∀k∈([w.heap.size,w.heap.size+2]++ob u12)++[wr.heap.size],w.heap.size<=k∧k < x1.heap.size):=ya (by
    obtain ⟨ds,hG,_⟩:=HJ.o.grow
    have h1:=af.o;have h2:=bd.o;have h3:=HT.o.lt;have h5:=HJ.o.size
    intro k s
    rcases yn.1 s with s|s
    ·rcases yn.1 s with s|s
     ·simp at s;omega
     ·have:=hG.lt k s;omega
    ·simp at s;omega)
   have fs:(i:Int)<=(h0.c:Int):=by have h1:=eb.o;have h2:=ey.o;have h3:=HS.o.lets.1;omega
   have cp:Hid (Below x1.heap.size x1 x1.drew):=ya (yc _ _).drew
   refine wp_region_noPanic ?_
   refine Bz (by kernel_rfl) (fun W=>Below x1.heap.size x1 W) 11 ?_
   refine A0 (i:=0) (v:=pV wr.heap.size 1) rfl (by kernel_rfl) (by kernel_rfl) (by kernel_rfl) (fun _ _ _ h=>h) (by kernel_rfl) (Or.inl ⟨by rfl,?_⟩) (fun _=>cp.o) ?_
   ·intro w _;go_simp
   refine Ag (i:=1) (v:=.agg (ct).toArray) rfl (by kernel_rfl) (by kernel_rfl) (by kernel_rfl) (fun _ _ _ h=>h) (by kernel_rfl) (yS (by rfl) 26 _ rfl (wr.heap.size) (1) rfl (ct) _ (fun W hW=>A1 cq.o (hW.block _ HT.o.lt)) qF rfl (AE bo.o)) cp.o ?_
   refine A0 (i:=2) (v:=pV (w.heap.size+1) 0) rfl (by kernel_rfl) (by kernel_rfl) (by kernel_rfl) (fun _ _ _ h=>h) (by kernel_rfl) (Or.inl ⟨by rfl,?_⟩) (fun _=>cp.o) ?_
   ·intro w _;go_simp
   refine Ag (i:=3) (v:=.slice h0.a h0.n h0.c) rfl (by kernel_rfl) (by kernel_rfl) (by kernel_rfl) (fun _ _ _ h=>h) (by kernel_rfl) (Or.inl ⟨by rfl,?_⟩) cp.o ?_
   ·intro W hW
    have hc:W.cell? (aV (w.heap.size+1) 0)=some (.slice h0.a h0.n h0.c):=(hW.cell (p:=(aV (w.heap.size+1) 0)) (by have:=Z.o.size;simp only;omega)).trans l0
    clear hW
    go_simp
   refine A0 (i:=4) (v:=iV i) rfl (by kernel_rfl) (by kernel_rfl) (by kernel_rfl) (fun _ _ _ h=>h) (by kernel_rfl) (Or.inl ⟨by rfl,?_⟩) (fun _=>cp.o) ?_
   ·intro w _;go_simp
   refine A0 (i:=5) (v:=.slice h0.a i h0.c) rfl (by kernel_rfl) (by kernel_rfl) (by kernel_rfl) (fun _ _ _ h=>h) (by kernel_rfl) (Or.inl ⟨by rfl,?_⟩) (fun _=>cp.o) ?_
   ·intro w _;go_simp
   refine D4 (i:=6) (j:=10) (by kernel_rfl) rfl rfl (fun K hK=>?_) (fun K hK=>?_)
   ·go_simp
    refine (BD (F:=FL F (([w.heap.size,w.heap.size+2]++ob u12)++[wr.heap.size])) (Ly (HS.o.lets.up (Z.o.below.trans ((yc _ _).drew.mono Z.o.below.size))) (Nat.le_of_lt eb.o)) (Oy du.o (Z.o.below.trans ((yc _ _).drew.mono Z.o.below.size)) fun k s=>(bk.o k s).1) (FG (fun b hb=>yk (HF.o b hb) Z.o.below.size) fun k s=>(bk.o k s).2)).mono ?_
    rintro e x2 ⟨J,en,rfl,P,a7,S⟩
    have M:=ya P;have c5:=ya a7;have H:=ya P.len
    have y:Hid (Below x1.heap.size x1 x2):=ya ((yc _ _).drew.trans S)
    refine hK.o _ _ (fun _=>y.o) ?_
    clear hK K
    refine A0 (i:=7) (v:=.tuple #[.agg (J).toArray,.bool (Dp (t.lets.take i) et)]) rfl (by kernel_rfl) (by kernel_rfl) (by kernel_rfl) (fun _ _ _ h=>h) (by kernel_rfl) (Or.inl ⟨by rfl,?_⟩) (fun _=>y.o) ?_
    ·intro w _;go_simp
    refine A0 (i:=8) (v:=.agg (J).toArray) rfl (by kernel_rfl) (by kernel_rfl) (by kernel_rfl) (fun _ _ _ h=>h) (by kernel_rfl) (Or.inl ⟨by rfl,?_⟩) (fun _=>y.o) ?_
    ·intro w _;go_simp
    refine A0 (i:=9) (v:=.bool (Dp (t.lets.take i) et)) rfl (by kernel_rfl) (by kernel_rfl) (by kernel_rfl) (fun _ _ _ h=>h) (by kernel_rfl) (Or.inl ⟨by rfl,?_⟩) (fun _=>y.o) ?_
    ·intro w _;go_simp
    refine A4 (i:=10) (by kernel_rfl) rfl (fun K hK=>?_)
    go_simp
    have av:Hid (Below x2.heap.size x2 (x2.alloc (.cells ja.toArray 26))):=ya ((yc _ _).alloc (ye _) _)
    have ch:Hid ((x2.alloc (.cells ja.toArray 26)).heap[x2.heap.size]?=some (.cells ([]++(ja++[])).toArray 26 (0,0))):=ya (by simpa using World.alloc_heap_new x2 (.cells ja.toArray 26))
    refine hK.o _ _ (fun _=>y.o.trans (av.o.mono y.o.size)) ?_
    clear hK K
    refine A4 (i:=11) (by kernel_rfl) rfl (fun K hK=>?_)
    rw[yu (by rfl)]
    refine zh 26 _ _ rfl (x2.heap.size) 0 (J).toArray rfl rfl (Be ch.o (by simp[H.o])) (by rw[yp];exact (AE H.o)) (yy (A8 M.o)) ?_
    have f:=ya (Aw (x2.heap.size) 26 (J) 0 (x2.alloc (.cells ja.toArray 26)) [] ja [] ch.o rfl (by rw[H.o];rfl))
    rw[yE,yG] at f
    refine hK.o _ _ (by intro h;cases h) ?_
    clear hK K
    obtain ⟨x4,ck⟩:∃z:World,z=(x2.alloc (.cells ja.toArray 26)).setCells (x2.heap.size) 0 (J):=⟨_,rfl⟩
    rw[yN,<-ck]
    rw[<-ck] at f
    clear ck
    have ba:Hid (Below x2.heap.size x2 x4):=ya (f.o.below av.o (ye _))
    have c7:Hid (Below x1.heap.size x1 x4):=ya (y.o.trans (ba.o.mono y.o.size))
    have ar:=ya f.o.row
    have el:Hid (x1.heap.size<=x2.heap.size):=ya y.o.size
    have bb:=ya (M.o.fl (l':=([w.heap.size,w.heap.size+2]++ob u12)++[wr.heap.size]) (AP.below ba.o) (fun k s=>.inl s))
    clear P a7 S M y ba av ch f
    refine A4 (i:=12) (by kernel_rfl) rfl (fun K hK=>?_)
    go_simp
    refine hK.o _ _ (by intro h;cases h) ?_
    clear hK K
    refine AG (by kernel_rfl) ?_
    refine NoPanic.normal ?_
    clear l0 l1 l2 l3
    have b8:=ya (Tx.call HT.o bd.o c7.o)
    have V:=ya (A8 bb.o)
    have ad:Hid (x4.heap[wr.heap.size]?=some (.cells ([Value.string dn]++(ct++[])).toArray 55 (0,0))):=ya (by simpa using b8.o.x)
    go_upto_region 15 with (first
     |(refine yf rfl 26 _ rfl _ 0 rfl J _ (A6 ar.o) qF rfl (AE H.o) ?_)
     |(refine A7 rfl 26 _ _ rfl wr.heap.size 1 rfl J rfl (p:=[.string dn]) (m:=ct) (q:=[]) (t:=55) ad.o rfl (by rw[bo.o,H.o]) (AE H.o) V.o ?_;intro x7 aa;have f:Hid (AB x4 x7 wr.heap.size (.string dn::J) 55):=ya (by simpa using aa);clear aa))
    have U:=ya (Tx.set b8.o bd.o f.o)
    have da:Hid (Bh (GF (FL F ([w.heap.size,w.heap.size+2]++ob u12)) x7) x7 en J):=ya (bb.o.fl (f.o.flux (.inr (by simp))) (fun k s=>.inl (yn.2 (.inl s))))
    obtain ⟨R7,ae⟩:∃R:LV,R=.string dn::J:=⟨_,rfl⟩
    have d6:Hid (x7.heap[wr.heap.size]?=some (.cells R7.toArray 55 (0,0))):=ya (by rw[ae];exact U.o.x)
    have ak:Hid (R7.length=7):=ya (by rw[ae];simp[H.o])
    have be:Hid (∀v∈R7,v.oneCell'=true):=ya (by rw[ae];exact An rfl V.o)
    have cv:=ya ae
    clear ae f ad V bb b8 c7 ar cq bk
    obtain ⟨ds,hG,a8,aj⟩:=HJ.o.grow
    obtain ⟨rows,ah,c9,ab⟩:=(hG.rnd DP U.o.rnd).own
    have d3:=ya ah;have bz:=ya c9;have cb:=ya ab;have cw:=ya a8;have cy:=ya aj
    have aq:Hid (B0<=x7.heap.size):=ya (yo HJ.o.size U.o.rnd.flux.1)
    have cd:Hid ((x7.alloc (.cells R7.toArray 55)).ownsRow B0 55 7 u12 rows.length rows.flatten):=ya (Cg ah fun k s=>((yc _ _).alloc (ye _) _).block k (Gl ah k s).2)
    have cz:Hid (rows.length+1<=1000000):=ya (by rw[AW.length ab,a8];exact dm.o)
    have dd:Hid (B0<=(x7.alloc (.cells R7.toArray 55)).heap.size):=ya (by have:=aq.o;simp;omega)
    clear ah c9 ab a8 aj hG
    generalize hz:Dp (t.lets.take i) et=z2 at c5 ag
    clear hz
    go_wp2_with (first
     |(refine Ae b rfl _ rfl rfl ?_)
     |(refine Ak (g:=b) rfl _ _ _ rfl rfl (.bool (b&&z2)) (by cases b<;>rfl) ?_;generalize N:(b&&z2)=y2;have b3:=ya N;clear N)
     |(refine yf rfl 55 _ rfl wr.heap.size 0 rfl R7 _ (A6 d6.o) qT rfl (AX (n:=7) (by kernel_rfl) ak.o) ?_)
     |(refine Ct rfl 27 55 _ rfl R7 rfl 7 qG (by kernel_rfl) ak.o (by omega) (by omega) ?_)
     |(at_builtin;refine BT qG rfl _ _ rfl 7 (by kernel_rfl) (by omega) B0 u12 rows.length rows.flatten rfl cd.o x7.heap.size 1 R7 rfl (World.alloc_heap_new _ _) ak.o be.o cz.o dd.o ?_;intro vn x8 ap ce c3;have c4:=ya ap;have d5:=ya ce;have de:=ya c3;clear ap ce c3)
     |(refine Ab (g:=b) z7 rfl ?_;simp only[CW,Aa])
     |(refine Ab (g:=b) (Av b) rfl ?_;simp only[CW,Aa])
     |(rw[AD b z2];generalize N:(b&&z2)=y2;have b3:=ya N;clear N))
    have cx:=Dj (d:=(⟨dn,en⟩:E8)) DP cb.o bz.o d3.o ⟨dp.o,J,cv.o,da.o⟩ ak.o c4.o d5.o de.o aq.o
    refine ⟨⟨i+1,y2,rfl,by push_cast;rfl,by omega,ya (HJ.o.next (Jm (Mp af.o) (Mo _ _)) ?_ U.o.rnd.flux.1 cx cw.o ?_ ?_)⟩,by simp[intOf];omega⟩
    ·exact ⟨a1.o.up U.o.rnd.below,VE.rnd HJ.o.ex.2 U.o.rnd⟩
    ·rw[<-b3.o];exact ag.o.symm
    ·intro hy
     rw[<-b3.o] at hy
     simp only[ym] at hy
     refine qn ?_ bn.o.symm
     rw[cy.o hy.1,c5.o hy.2]
   ·go_simp
    have av:Hid (Below x1.heap.size x1 (x1.drew.alloc (.cells ja.toArray 26))):=ya ((yc _ _).drew.alloc (ye _) _)
    refine hK.o _ _ (fun _=>av.o) ?_
    clear hK K
    refine A4 (i:=6) (by kernel_rfl) rfl (fun K hK=>?_)
    go_simp
    have dt:Hid ((x1.drew.alloc (.cells ja.toArray 26)).heap[x1.heap.size]?=some (.cells ja.toArray 26 (0,0))):=ya (World.alloc_heap_new x1.drew (.cells ja.toArray 26))
    refine (BD (F:=FL F ((([w.heap.size,w.heap.size+2]++ob u12)++[wr.heap.size])++[x1.heap.size])) (Ly (HS.o.lets.up (Z.o.below.trans (av.o.mono Z.o.below.size))) (Nat.le_of_lt eb.o)) (Oy du.o (Z.o.below.trans (av.o.mono Z.o.below.size)) fun k s=>(yn.1 s).elim (fun h=>(bk.o k h).1) (fun h=>by simp at h;have:=Z.o.below.size;omega)) (FG (fun b hb=>yk (HF.o b hb) (Z.o.below.trans (av.o.mono Z.o.below.size)).size) fun k s=>(yn.1 s).elim (fun h=>yk (bk.o k h).2 av.o.size) (fun h=>by simp at h;rw[h];exact (yd.1 dt.o).1))).mono ?_
    rintro e x2 ⟨J,en,rfl,P,a7,S⟩
    have M:=ya P;have c5:=ya a7;have H:=ya P.len
    have ee:=ya S
    have y:Hid (Below x1.heap.size x1 x2):=ya (av.o.trans (S.mono av.o.size))
    have ch:Hid (x2.heap[x1.heap.size]?=some (.cells ([]++(ja++[])).toArray 26 (0,0))):=ya (by
     have h:=(S.block x1.heap.size (yd.1 dt.o).1).trans dt.o
     simpa using h)
    refine hK.o _ _ (fun _=>y.o) ?_
    clear hK K
    refine A0 (i:=7) (v:=.tuple #[.agg (J).toArray,.bool (Dp (t.lets.take i) et)]) rfl (by kernel_rfl) (by kernel_rfl) (by kernel_rfl) (fun _ _ _ h=>h) (by kernel_rfl) (Or.inl ⟨by rfl,?_⟩) (fun _=>y.o) ?_
    ·intro w _;go_simp
    refine A0 (i:=8) (v:=.agg (J).toArray) rfl (by kernel_rfl) (by kernel_rfl) (by kernel_rfl) (fun _ _ _ h=>h) (by kernel_rfl) (Or.inl ⟨by rfl,?_⟩) (fun _=>y.o) ?_
    ·intro w _;go_simp
    refine A0 (i:=9) (v:=.bool (Dp (t.lets.take i) et)) rfl (by kernel_rfl) (by kernel_rfl) (by kernel_rfl) (fun _ _ _ h=>h) (by kernel_rfl) (Or.inl ⟨by rfl,?_⟩) (fun _=>y.o) ?_
    ·intro w _;go_simp
    refine A4 (i:=11) (by kernel_rfl) rfl (fun K hK=>?_)
    rw[yu (by rfl)]
    refine zh 26 _ _ rfl (x1.heap.size) 0 (J).toArray rfl rfl (Be ch.o (by simp[H.o])) (by rw[yp];exact (AE H.o)) (yy (A8 M.o)) ?_
    have f:=ya (Aw (x1.heap.size) 26 (J) 0 (x2) [] ja [] ch.o rfl (by rw[H.o];rfl))
    rw[yE,yG] at f
    refine hK.o _ _ (by intro h;cases h) ?_
    clear hK K
    obtain ⟨x4,ck⟩:∃z:World,z=(x2).setCells (x1.heap.size) 0 (J):=⟨_,rfl⟩
    rw[yN,<-ck]
    rw[<-ck] at f
    clear ck
    have c7:Hid (Below x1.heap.size x1 x4):=ya (f.o.below y.o (ye _))
    have ar:=ya f.o.row
    have el:Hid (x1.heap.size<=x1.heap.size):=ya (ye _)
    have bb:=ya (M.o.fl (l':=([w.heap.size,w.heap.size+2]++ob u12)++[wr.heap.size]) (f.o.flux (.inr (by simp))) (fun k s=>.inl (yn.2 (.inl s))))
    clear P a7 S M y ee av dt ch f
    refine A4 (i:=12) (by kernel_rfl) rfl (fun K hK=>?_)
    go_simp
    refine hK.o _ _ (by intro h;cases h) ?_
    clear hK K
    refine AG (by kernel_rfl) ?_
    refine NoPanic.normal ?_
    clear l0 l1 l2 l3
    have b8:=ya (Tx.call HT.o bd.o c7.o)
    have V:=ya (A8 bb.o)
    have ad:Hid (x4.heap[wr.heap.size]?=some (.cells ([Value.string dn]++(ct++[])).toArray 55 (0,0))):=ya (by simpa using b8.o.x)
    go_upto_region 15 with (first
     |(refine yf rfl 26 _ rfl _ 0 rfl J _ (A6 ar.o) qF rfl (AE H.o) ?_)
     |(refine A7 rfl 26 _ _ rfl wr.heap.size 1 rfl J rfl (p:=[.string dn]) (m:=ct) (q:=[]) (t:=55) ad.o rfl (by rw[bo.o,H.o]) (AE H.o) V.o ?_;intro x7 aa;have f:Hid (AB x4 x7 wr.heap.size (.string dn::J) 55):=ya (by simpa using aa);clear aa))
    have U:=ya (Tx.set b8.o bd.o f.o)
    have da:Hid (Bh (GF (FL F ([w.heap.size,w.heap.size+2]++ob u12)) x7) x7 en J):=ya (bb.o.fl (f.o.flux (.inr (by simp))) (fun k s=>.inl (yn.2 (.inl s))))
    obtain ⟨R7,ae⟩:∃R:LV,R=.string dn::J:=⟨_,rfl⟩
    have d6:Hid (x7.heap[wr.heap.size]?=some (.cells R7.toArray 55 (0,0))):=ya (by rw[ae];exact U.o.x)
    have ak:Hid (R7.length=7):=ya (by rw[ae];simp[H.o])
    have be:Hid (∀v∈R7,v.oneCell'=true):=ya (by rw[ae];exact An rfl V.o)
    have cv:=ya ae
    clear ae f ad V bb b8 c7 ar cq bk
    obtain ⟨ds,hG,a8,aj⟩:=HJ.o.grow
    obtain ⟨rows,ah,c9,ab⟩:=(hG.rnd DP U.o.rnd).own
    have d3:=ya ah;have bz:=ya c9;have cb:=ya ab;have cw:=ya a8;have cy:=ya aj
    have aq:Hid (B0<=x7.heap.size):=ya (yo HJ.o.size U.o.rnd.flux.1)
    have cd:Hid ((x7.alloc (.cells R7.toArray 55)).ownsRow B0 55 7 u12 rows.length rows.flatten):=ya (Cg ah fun k s=>((yc _ _).alloc (ye _) _).block k (Gl ah k s).2)
    have cz:Hid (rows.length+1<=1000000):=ya (by rw[AW.length ab,a8];exact dm.o)
    have dd:Hid (B0<=(x7.alloc (.cells R7.toArray 55)).heap.size):=ya (by have:=aq.o;simp;omega)
    clear ah c9 ab a8 aj hG
    generalize hz:Dp (t.lets.take i) et=z2 at c5 ag
    clear hz
    go_wp2_with (first
     |(refine Ae b rfl _ rfl rfl ?_)
     |(refine Ak (g:=b) rfl _ _ _ rfl rfl (.bool (b&&z2)) (by cases b<;>rfl) ?_;generalize N:(b&&z2)=y2;have b3:=ya N;clear N)
     |(refine yf rfl 55 _ rfl wr.heap.size 0 rfl R7 _ (A6 d6.o) qT rfl (AX (n:=7) (by kernel_rfl) ak.o) ?_)
     |(refine Ct rfl 27 55 _ rfl R7 rfl 7 qG (by kernel_rfl) ak.o (by omega) (by omega) ?_)
     |(at_builtin;refine BT qG rfl _ _ rfl 7 (by kernel_rfl) (by omega) B0 u12 rows.length rows.flatten rfl cd.o x7.heap.size 1 R7 rfl (World.alloc_heap_new _ _) ak.o be.o cz.o dd.o ?_;intro vn x8 ap ce c3;have c4:=ya ap;have d5:=ya ce;have de:=ya c3;clear ap ce c3)
     |(refine Ab (g:=b) z7 rfl ?_;simp only[CW,Aa])
     |(refine Ab (g:=b) (Av b) rfl ?_;simp only[CW,Aa])
     |(rw[AD b z2];generalize N:(b&&z2)=y2;have b3:=ya N;clear N))
    have cx:=Dj (d:=(⟨dn,en⟩:E8)) DP cb.o bz.o d3.o ⟨dp.o,J,cv.o,da.o⟩ ak.o c4.o d5.o de.o aq.o
    refine ⟨⟨i+1,y2,rfl,by push_cast;rfl,by omega,ya (HJ.o.next (Jm (Mp af.o) (Mo _ _)) ?_ U.o.rnd.flux.1 cx cw.o ?_ ?_)⟩,by simp[intOf];omega⟩
    ·exact ⟨a1.o.up U.o.rnd.below,VE.rnd HJ.o.ex.2 U.o.rnd⟩
    ·rw[<-b3.o];exact ag.o.symm
    ·intro hy
     rw[<-b3.o] at hy
     simp only[ym] at hy
     refine qn ?_ bn.o.symm
     rw[cy.o hy.1,c5.o hy.2]
  ·obtain rfl:i=ln:=by omega
   have ci:decide ((i:Int) < (i:Int))=false:=by simp
   obtain ⟨dl,hG,a8,aj⟩:=HJ.o.grow
   obtain ⟨va,vn,vc,rfl⟩:=hG.slice
   have HG:=ya hG;have eh:=ya a8;have dy:=ya aj
   have d7:=ya HJ.o.ex.2
   skip
   have dv:=ya HJ.o.b
   have b7:Hid (wr.heap[w.heap.size]?=some (.cells ((.string sn::(u++(I++(O))))++(.slice la i lc::(.slice ca Y cc::(.slice p0 q0 r0::(.slice p1 E r1::(.slice p2 G r2::(.slice p3 A r3::([.slice p4 q4 r4]))))))):LV).toArray 35 (0,0))):=ya (by
    have h:=a1.o.x
    rw[cl.o] at h
    simpa[yg] using h)
   clear hG a8 aj
   go_upto_region 18 with (first
    |(refine AQ rfl 27 _ _ rfl w.heap.size 19 rfl (.slice va vn vc) rfl rfl (p:=.string sn::(u++(I++(O)))) (m:=.slice la i lc) (q:=.slice ca Y cc::(.slice p0 q0 r0::(.slice p1 E r1::(.slice p2 G r2::(.slice p3 A r3::([.slice p4 q4 r4])))))) (t:=35) b7.o (by simp[T.o,a0.o,ac.o]) (by kernel_rfl) rfl ?_;intro y0 bw;have au:Hid (AB wr y0 w.heap.size (.string sn::(u++(I++(O++(.slice va vn vc::(.slice ca Y cc::(.slice p0 q0 r0::(.slice p1 E r1::(.slice p2 G r2::(.slice p3 A r3::([.slice p4 q4 r4]))))))))))) 35):=ya (by simpa[yg] using bw);clear bw))
   clear hf ci b7
   have Q:=ya (a1.o.wrote au.o)
   have d0:=ya (HG.o.up (l':=[w.heap.size,w.heap.size+2]) DP (au.o.flux (.inr (by simp))) (fun k s=>au.o.block k (by have h1:=(HG.o.lt k s).1;have h2:=af.o;omega)) (fun k s=>.inl s))
   have HV:Hid (VE F [w.heap.size,w.heap.size+2] y0 [u,I,O] [b5,bm,bv]):=ya (d7.o.up (au.o.flux (.inr (by simp))) (fun k s=>.inl (yn.2 (.inl s))))
   have cu:=ya (d0.o.done DP (fun b hb=>by have h1:=HF.o b hb;have h2:=af.o;omega) (fun k s=>by have h2:=af.o;simp at s;omega) (by have:=bt.o;have:=eh.o;omega))
   obtain ⟨hl,d8,d4⟩:=cu.o
   have eu:=ya d8
   have dj:=ya d4
   clear d7 HG d0 cu au HJ a1 d8 d4 cl ea af
   obtain ⟨bL,e6⟩:∃z:Bool,z=b:=⟨_,rfl⟩
   rw[<-e6]
   rw[<-e6] at dv dy
   clear e6
   obtain ⟨i0,fq⟩:∃z:Nat,z=i:=⟨_,rfl⟩
   skip
   obtain ⟨R1,hR⟩:∃R:LV,R=.string sn::(u++(I++(O++(.slice va vn vc::(.slice ca Y cc::(.slice p0 q0 r0::(.slice p1 E r1::(.slice p2 G r2::(.slice p3 A r3::([.slice p4 q4 r4])))))))))):=⟨_,rfl⟩
   obtain ⟨B1,hB⟩:∃B:Nat,B=y0.heap.size:=⟨_,rfl⟩
   have af:Hid (w.heap.size+3<=B1):=ya (by rw[hB];exact Q.o.size)
   have HJ:Hid (DQ F6 57 7 B1 F [w.heap.size,w.heap.size+2] (fun l W=>(fun _ W=>Bx w 35 ls 26 R1 W) l W∧(fun l W=>VE F l W [u,I,O] [b5,bm,bv]) l W∧(fun l W=>B7 (GF (FL F l) W) W 7 (Hf (GF (FL F l) W) W) hl dl) l W) (fun i=>bL&&(ys.zipIdx.take i).all fun p=>Fq t p.1) (fun i=>(ys.zipIdx.take i).map fun p=>Eu t p.1) 0 bL (.slice none 0 0) y0):=ya (by
    refine ⟨⟨by rw[hR];exact Q.o,by simpa[ob,Value.ownBlock] using HV.o,by simpa[ob,Value.ownBlock] using dj.o⟩,⟨[],FM,rfl,fun _=>rfl⟩,by simp,by rw[hB];exact ye _⟩)
   have cl:=ya hR;have ea:=ya hB
   clear Q HV hR hB dj
   go_wp2
   go_loopw [7,17,18] (fun v7 fo iv wr=>∃(i:Nat) (b:Bool),v7=.bool b∧iv=iV i∧i<=Y∧Hid (DQ F6 57 7 B1 F [w.heap.size,w.heap.size+2] (fun l W=>(fun _ W=>Bx w 35 ls 26 R1 W) l W∧(fun l W=>VE F l W [u,I,O] [b5,bm,bv]) l W∧(fun l W=>B7 (GF (FL F l) W) W 7 (Hf (GF (FL F l) W) W) hl dl) l W) (fun i=>bL&&(ys.zipIdx.take i).all fun p=>Fq t p.1) (fun i=>(ys.zipIdx.take i).map fun p=>Eu t p.1) i b fo wr)) (fun _ _ iv _=>Y - (intOf iv).toNat)
   case atStart=>exact ⟨0,bL,rfl,rfl,yv _,HJ⟩
   case round=>
    clear HJ
    obtain ⟨i,b,rfl,rfl,hi,HJ⟩:=hrel
    have a1:=ya HJ.o.ex.1
    have hf:=CL (a1.o.part (p:=.string sn::(u++(I++(O++([.slice va vn vc]))))) (m:=[.slice ca Y cc]) (q:=.slice p0 q0 r0::(.slice p1 E r1::(.slice p2 G r2::(.slice p3 A r3::([.slice p4 q4 r4]))))) (off:=20) (by rw[cl.o];first|rfl|simp[yg]) (by simp[T.o,a0.o,ac.o]))
    have er:Y<=140737488355328:=f9.o
    by_cases e7:i < Y
    ·have bj:i < ys.length:=by rw[<-ai.o];exact e7
     have ci:(i:Int) < (Y:Int):=by omega
     obtain ⟨bq,oq,fi,he,d1,e9,d2,db⟩:=c6.o i bj
     obtain rfl:ca=some (aV bq oq):=he
     have ag:Hid ((fun i=>bL&&(ys.zipIdx.take i).all fun p=>Fq t p.1) (i+1)=(b&&Dp t.lets ys[i].need)):=ya (by
      have h1:b=(bL&&(ys.zipIdx.take i).all fun p=>Fq t p.1):=HJ.o.b
      show (bL&&(ys.zipIdx.take (i+1)).all fun p=>Fq t p.1)=_
      rw[Hz bj,z8,zb,zn,zj,<-zM,<-h1];rfl)
     have bn:Hid ((fun i=>(ys.zipIdx.take i).map fun p=>Eu t p.1) (i+1)=(fun i=>(ys.zipIdx.take i).map fun p=>Eu t p.1) i++[⟨ys[i].name,BR t.lets ys[i].need⟩]):=ya (by
      show (ys.zipIdx.take (i+1)).map (fun p=>Eu t p.1)=_
      rw[Hz bj,ze];rfl)
     have dm:Hid (i+1<=1000000):=ya (by have:=b4.o;omega)
     generalize hD:ys[i]=D at db ag bn
     clear hD
     obtain ⟨dn,et⟩:=D
     obtain ⟨d9,ct,rfl,bg⟩:=db
     have du:=ya bg
     have bo:=ya bg.len
     have dh:Hid (wr.rangeAt bq (oq+i*7) (.string dn::ct)):=ya (A1 d2 (a1.o.below.block bq d1.2))
     have dp:=ya d9
     have bu:Hid ((.string dn::ct:LV).length=7):=ya (by simp[bg.len])
     have be:Hid (∀v∈(.string dn::ct:LV),v.oneCell'=true):=ya (An rfl (A8 bg))
     have bd:Hid (w.heap.size+3<=wr.heap.size):=ya a1.o.size
     skip
     clear d2 bg d9 e9 d1 bj
     go_upto_region 23 with (first
      |(refine yf rfl 57 _ rfl bq (oq+i*7) rfl (.string dn::ct) _ dh.o qU rfl (AX (n:=7) (by kernel_rfl) bu.o) ?_)
      |(refine A2 rfl 57 _ _ rfl wr.heap.size rfl (.string dn::ct) rfl (World.alloc_heap_new _ _) (by rw[bu.o];rfl) (AX (n:=7) (by kernel_rfl) bu.o) be.o ?_;intro x1 bp;have cr:=ya bp;clear bp))
     have HT:=ya (Mn (F:=F) (l:=[w.heap.size,w.heap.size+2]) (B:=B1) (C:=w.heap.size+3) bd.o cr.o)
     clear cr dh ci hf bu be
     have Z:=ya (a1.o.up HT.o.rnd.below)
     obtain ⟨l0,l1,l2,l3⟩:=Z.o.scope HS.o.cells
     have cq:=ya (HT.o.part (p:=[.string dn]) (m:=ct) (q:=[]) (off:=1) (by simp) rfl)
     have bk:Hid (∀k∈([w.heap.size,w.heap.size+2]++ob u17)++[wr.heap.size],w.heap.size<=k∧k < x1.heap.size):=ya (by
      obtain ⟨ds,hG,_⟩:=HJ.o.grow
      have h1:=af.o;have h2:=bd.o;have h3:=HT.o.lt;have h5:=HJ.o.size
      intro k s
      rcases yn.1 s with s|s
      ·rcases yn.1 s with s|s
       ·simp at s;omega
       ·have:=hG.lt k s;omega
      ·simp at s;omega)
     have HC:=ya (BD (F:=FL F (([w.heap.size,w.heap.size+2]++ob u17)++[wr.heap.size])) (HS.o.lets.up Z.o.below) (Oy du.o Z.o.below fun k s=>(bk.o k s).1) (FG (fun b hb=>yk (HF.o b hb) Z.o.below.size) fun k s=>(bk.o k s).2))
     go_upto_region 24 with (first
      |(refine yf rfl 26 _ rfl wr.heap.size 1 rfl ct _ cq.o qF rfl (AE bo.o) ?_)
      |(go_at_call 87;refine HC.o.mono ?_;rintro e x2 ⟨J,en,rfl,P,a7,S⟩;have M:=ya P;have c5:=ya a7;have H:=ya P.len;have y:=ya S;clear P a7 S)
      |(refine A2 rfl 26 _ _ rfl x2.heap.size rfl J rfl (World.alloc_heap_new _ _) (by rw[H.o];rfl) (AE H.o) (A8 M.o) ?_;intro x4 bi;have f:=ya bi;clear bi))
     have ba:Hid (Below x2.heap.size x2 x4):=ya (f.o.below ((yc _ _).alloc (ye _) _) (ye _))
     have c7:Hid (Below x1.heap.size x1 x4):=ya (y.o.trans (ba.o.mono y.o.size))
     have ar:=ya f.o.row
     have bb:=ya (M.o.fl (l':=([w.heap.size,w.heap.size+2]++ob u17)++[wr.heap.size]) (AP.below ba.o) (fun k s=>.inl s))
     clear M y ba f HC l0 l1 l2 l3
     have b8:=ya (Tx.call HT.o bd.o c7.o)
     have V:=ya (A8 bb.o)
     have ad:Hid (x4.heap[wr.heap.size]?=some (.cells ([Value.string dn]++(ct++[])).toArray 57 (0,0))):=ya (by simpa using b8.o.x)
     go_upto_region 25 with (first
      |(refine yf rfl 26 _ rfl _ 0 rfl J _ (A6 ar.o) qF rfl (AE H.o) ?_)
      |(refine A7 rfl 26 _ _ rfl wr.heap.size 1 rfl J rfl (p:=[.string dn]) (m:=ct) (q:=[]) (t:=57) ad.o rfl (by rw[bo.o,H.o]) (AE H.o) V.o ?_;intro x7 aa;have f:Hid (AB x4 x7 wr.heap.size (.string dn::J) 57):=ya (by simpa using aa);clear aa))
     have U:=ya (Tx.set b8.o bd.o f.o)
     have da:Hid (Bh (GF (FL F ([w.heap.size,w.heap.size+2]++ob u17)) x7) x7 en J):=ya (bb.o.fl (f.o.flux (.inr (by simp))) (fun k s=>.inl (yn.2 (.inl s))))
     obtain ⟨R7,ae⟩:∃R:LV,R=.string dn::J:=⟨_,rfl⟩
     have d6:Hid (x7.heap[wr.heap.size]?=some (.cells R7.toArray 57 (0,0))):=ya (by rw[ae];exact U.o.x)
     have ak:Hid (R7.length=7):=ya (by rw[ae];simp[H.o])
     have be:Hid (∀v∈R7,v.oneCell'=true):=ya (by rw[ae];exact An rfl V.o)
     have cv:=ya ae
     clear ae f ad V bb b8 c7 ar cq bk
     obtain ⟨ds,hG,a8,aj⟩:=HJ.o.grow
     obtain ⟨rows,ah,c9,ab⟩:=(hG.rnd Fj U.o.rnd).own
     have d3:=ya ah;have bz:=ya c9;have cb:=ya ab;have cw:=ya a8;have cy:=ya aj
     have aq:Hid (B1<=x7.heap.size):=ya (yo HJ.o.size U.o.rnd.flux.1)
     have cd:Hid ((x7.alloc (.cells R7.toArray 57)).ownsRow B1 57 7 u17 rows.length rows.flatten):=ya (Cg ah fun k s=>((yc _ _).alloc (ye _) _).block k (Gl ah k s).2)
     have cz:Hid (rows.length+1<=1000000):=ya (by rw[AW.length ab,a8];exact dm.o)
     have dd:Hid (B1<=(x7.alloc (.cells R7.toArray 57)).heap.size):=ya (by have:=aq.o;simp;omega)
     clear ah c9 ab a8 aj hG
     generalize hz:Dp t.lets et=z2 at c5 ag
     clear hz
     go_wp2_with (first
      |(refine Ae b rfl _ rfl rfl ?_)
      |(refine Ak (g:=b) rfl _ _ _ rfl rfl (.bool (b&&z2)) (by cases b<;>rfl) ?_;generalize N:(b&&z2)=y2;have b3:=ya N;clear N)
      |(refine yf rfl 57 _ rfl wr.heap.size 0 rfl R7 _ (A6 d6.o) qU rfl (AX (n:=7) (by kernel_rfl) ak.o) ?_)
      |(refine Ct rfl 28 57 _ rfl R7 rfl 7 qH (by kernel_rfl) ak.o (by omega) (by omega) ?_)
      |(at_builtin;refine BT qH rfl _ _ rfl 7 (by kernel_rfl) (by omega) B1 u17 rows.length rows.flatten rfl cd.o x7.heap.size 1 R7 rfl (World.alloc_heap_new _ _) ak.o be.o cz.o dd.o ?_;intro vn x8 ap ce c3;have c4:=ya ap;have d5:=ya ce;have de:=ya c3;clear ap ce c3)
      |(refine Ab (g:=b) z7 rfl ?_;simp only[CW,Aa])
      |(refine Ab (g:=b) (Av b) rfl ?_;simp only[CW,Aa])
      |(rw[AD b z2];generalize N:(b&&z2)=y2;have b3:=ya N;clear N))
     have cx:=Dj (d:=(⟨dn,en⟩:Cp)) Fj cb.o bz.o d3.o ⟨dp.o,J,cv.o,da.o⟩ ak.o c4.o d5.o de.o aq.o
     refine ⟨⟨i+1,y2,rfl,by push_cast;rfl,by omega,ya (HJ.o.next (Jm (Mp af.o) (Jm (Mo _ _) (T5 DP))) ?_ U.o.rnd.flux.1 cx cw.o ?_ ?_)⟩,by simp[intOf];omega⟩
     ·exact ⟨a1.o.up U.o.rnd.below,VE.rnd HJ.o.ex.2.1 U.o.rnd,HJ.o.ex.2.2.flux DP (U.o.rnd.flux.more _) (fun b hb=>.inl hb)⟩
     ·rw[<-b3.o];exact ag.o.symm
     ·intro hy
      rw[<-b3.o] at hy
      simp only[ym] at hy
      refine qn ?_ bn.o.symm
      rw[cy.o hy.1,c5.o hy.2]
    ·obtain rfl:i=Y:=by omega
     have ci:decide ((i:Int) < (i:Int))=false:=by simp
     obtain ⟨dc,hG,a8,aj⟩:=HJ.o.grow
     obtain ⟨wa,wn,wc,rfl⟩:=hG.slice
     have HG:=ya hG;have em:=ya a8;have f1:=ya aj
     have d7:=ya HJ.o.ex.2.1
     have ek:=ya HJ.o.ex.2.2
     have eq:=ya HJ.o.b
     have b7:Hid (wr.heap[w.heap.size]?=some (.cells ((.string sn::(u++(I++(O++([.slice va vn vc])))))++(.slice ca i cc::(.slice p0 q0 r0::(.slice p1 E r1::(.slice p2 G r2::(.slice p3 A r3::([.slice p4 q4 r4])))))):LV).toArray 35 (0,0))):=ya (by
      have h:=a1.o.x
      rw[cl.o] at h
      simpa[yg] using h)
     clear hG a8 aj
     go_upto_region 28 with (first
      |(refine AQ rfl 28 _ _ rfl w.heap.size 20 rfl (.slice wa wn wc) rfl rfl (p:=.string sn::(u++(I++(O++([.slice va vn vc]))))) (m:=.slice ca i cc) (q:=.slice p0 q0 r0::(.slice p1 E r1::(.slice p2 G r2::(.slice p3 A r3::([.slice p4 q4 r4]))))) (t:=35) b7.o (by simp[T.o,a0.o,ac.o]) (by kernel_rfl) rfl ?_;intro y1 bw;have au:Hid (AB wr y1 w.heap.size (.string sn::(u++(I++(O++(.slice va vn vc::(.slice wa wn wc::(.slice p0 q0 r0::(.slice p1 E r1::(.slice p2 G r2::(.slice p3 A r3::([.slice p4 q4 r4]))))))))))) 35):=ya (by simpa[yg] using bw);clear bw))
     clear hf ci b7
     have Q:=ya (a1.o.wrote au.o)
     have d0:=ya (HG.o.up (l':=[w.heap.size,w.heap.size+2]) Fj (au.o.flux (.inr (by simp))) (fun k s=>au.o.block k (by have h1:=(HG.o.lt k s).1;have h2:=af.o;omega)) (fun k s=>.inl s))
     have HV:Hid (VE F [w.heap.size,w.heap.size+2] y1 [u,I,O] [b5,bm,bv]):=ya (d7.o.up (au.o.flux (.inr (by simp))) (fun k s=>.inl (yn.2 (.inl s))))
     have cu:=ya (d0.o.done Fj (fun b hb=>by have h1:=HF.o b hb;have h2:=af.o;omega) (fun k s=>by have h2:=af.o;simp at s;omega) (by have:=b4.o;have:=em.o;omega))
     obtain ⟨hd,d8,d4⟩:=cu.o
     have f0:=ya d8
     have ff:=ya d4
     have dj:Hid (B7 (GF (FL F [w.heap.size,w.heap.size+2]) y1) y1 7 (Hf (GF (FL F [w.heap.size,w.heap.size+2]) y1) y1) hl dl):=ya (ek.o.flux DP (au.o.flux (.inr (by simp))) (fun b hb=>hb.elim (fun h=>.inl (.inl h)) (fun h=>.inl (.inr (yn.2 (.inl h))))))
     clear d7 HG d0 cu au HJ a1 d8 d4 ek cl ea af
     obtain ⟨zr,ed,ez⟩:=Q.o.r
     have HZ:=ya ed;have f8:=ya ez
     clear ed ez
     obtain ⟨row,c8⟩:∃r:LV,r=.string sn::(u++(I++(O++(.slice va vn vc::(.slice wa wn wc::(.slice p0 q0 r0::(.slice p1 E r1::(.slice p2 G r2::(.slice p3 A r3::([.slice p4 q4 r4])))))))))):=⟨_,rfl⟩
     rw[<-c8] at Q
     have HN:Hid (row.length=26):=ya (by rw[c8];exact (by simp[T.o,a0.o,ac.o]))
     have f5:Hid (∀v∈row,v.oneCell'=true):=ya (by
      obtain ⟨v0,v1,v2,_⟩:=HV.o
      rw[c8]
      exact (An rfl (Ai (A8 v0) (Ai (A8 v1) (Ai (A8 v2) (An rfl (An rfl (An rfl (An rfl (An rfl (An rfl (An rfl (fun _ h=>nomatch h)))))))))))))
     have eo:=ya c8
     clear c8
     go_wp2_with (first
      |(refine yf rfl 35 _ rfl w.heap.size 0 rfl row _ (A6 Q.o.x) qO rfl (AX (n:=26) (by kernel_rfl) HN.o) ?_)
      |(refine A2 rfl 35 _ _ rfl (w.heap.size+2) rfl row rfl f8.o (by rw[yp,HZ.o,HN.o]) (AX (n:=26) (by kernel_rfl) HN.o) f5.o ?_;intro w9 ec;have dk:=ya ec;clear ec)
     )
     refine At rfl rfl dk.o.row qO rfl (AX (n:=26) (by kernel_rfl) HN.o) ?_
     obtain ⟨v0,v1,v2,_⟩:=FI HV.o (by simp) dk.o
     have dx:=dk.o.flux (F:=FL F [w.heap.size,w.heap.size+2]) (.inr (by simp))
     have ep:B7 (GF F w9) w9 7 (Hf (GF F w9) w9) hl dl:=dj.o.flux DP dx (fun b hb=>.inl (.inl hb))
     have ef:B7 (GF F w9) w9 7 (F6 (GF F w9) w9) hd dc:=ff.o.flux Fj dx (fun b hb=>.inl (.inl hb))
     have f3:bL=(((q1&&q2)&&q3)&&xs.zipIdx.all fun p=>H7 t p.1 p.2):=by
      have h:=dv.o
      simp only[az.o,OK] at h
      rw[h,<-e5.o,<-e3.o]
     have S:b=(bL&&ys.all (Fq t)):=by
      have h:=eq.o
      simp only[ai.o,OK,GP] at h
      exact h
     have f2:b=Ji t ⟨sn,e0,e1,e2,xs,ys,kr,kf,ko,kg,kd⟩:=by
      rw[S,f3]
      simp only[Ji,fk.o,fh.o,fm.o]
     refine ⟨row,⟨sn,b5,bm,bv,dl,dc,kr,kf,ko,kg,kd⟩,BH rfl (yz Value.bool f2),⟨f6.o,u,I,O,hl,hd,?_,v0,v1,v2,ep,ef⟩,?_,dk.o.below Q.o.below (by omega)⟩
     ·rw[eo.o,eu.o,f0.o];rfl
     ·intro hq
      rw[<-f2] at hq
      have di:bL=true:=by rw[S,ym] at hq;exact hq.1
      have ev:=dy.o di
      have eg:=f1.o hq
      simp only[az.o,OL] at ev
      simp only[ai.o,OL,UC] at eg
      rw[f3] at di
      simp only[ym] at di
      obtain ⟨⟨⟨k1,k2⟩,k3⟩,k4⟩:=di
      simp only[Mw,fj.o k1,fb.o,fe.o k2,fg.o,fa.o k3,fp.o,ev,eg]
end Go.Proofs.Ytghepahgkcigpaa
