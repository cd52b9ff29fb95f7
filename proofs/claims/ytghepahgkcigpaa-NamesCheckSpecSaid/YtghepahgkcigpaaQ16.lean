/- The reference's farm (printed by gen_yk.py). -/
import Derived.Test.YtghepahgkcigpaaQ0
import Derived.Test.YtghepahgkcigpaaQ11
import Derived.Test.YtghepahgkcigpaaQ8
set_option maxRecDepth 100000
set_option maxHeartbeats 16000000
set_option linter.unusedSimpArgs false
namespace Go.Proofs.Ytghepahgkcigpaa
open Go.RowKit
theorem Tf{h:ByteArray}{a c:Rf}{e0:Ex}{c0:LV}{F:NP}{w:World}{ls:LV}{a0 a1 a2 a3:AF}{t:Tb}(h1:h.size<=maxLen)(h2:a.name.size<=maxLen)(h3:c.name.size<=maxLen)(hx:Bh (GF F w) w e0 c0)(hs:MN w ls a0 a1 a2 a3 t)(hF:∀b,F b->b < w.heap.size):
  Calls Try.prog 58 #[.agg (.string h::(Ad a++(.bool true::(c0++Ad c)))).toArray,.agg ls.toArray] w (ES E9 F w (Cc t ⟨h,a,true,e0,c⟩) (BQ t ⟨h,a,true,e0,c⟩)):=by
 have HS:=ya hs
 have HF:=ya hF
 clear hs hF
 go_enter Try.func58,Try.ntmps58
 go_upto_region 1 with (first|(refine AR rfl 59 _ rfl (.string h::(Ad a++(.bool true::(c0++(Ad c))))).toArray rfl ?_)|(refine AR rfl 109 _ rfl ls.toArray rfl ?_))
 obtain ⟨w1,U⟩:∃z:World,z=((w.alloc (.cells (.string h::(Ad a++(.bool true::(c0++(Ad c))))).toArray 59)).alloc (.cells ls.toArray 109)).alloc (.cells je 59):=⟨_,rfl⟩
 rw[<-U]
 have d:=ya (FF (n:=12) (row:=.string h::(Ad a++(.bool true::(c0++(Ad c))))) U rfl rfl)
 clear U
 have K:Hid (VE F [w.heap.size,w.heap.size+2] w1 [c0] [e0]):=ya (FH ⟨hx,trivial⟩ d.o.below (by intro k hk;simp at hk;omega))
 have I:=ya (hx).len
 clear hx
 have J:Hid (.string h::(Ad a++(.bool true::(c0++(Ad c))))=([.string h])++((Ad a)++(.bool true::(c0++(Ad c))))):=ya (by first|rfl|simp[yg])
 have l:=ya (d.o.part J.o (off:=1) (by simp))
 obtain ⟨l0,l1,l2,l3⟩:=d.o.scope HS.o.cells
 generalize O:Dh t.reaches a=B
 have S:=ya O
 clear O
 go_upto_region 3 with (first
  |(refine yf rfl 23 _ rfl w.heap.size 1 rfl (Ad a) _ l.o qD rfl (CK _) ?_)
  |(go_at_call 88;refine (DN (HS.o.reaches.up d.o.below) a).mono ?_;rintro e V ⟨rfl,C⟩;have u:=ya C;clear C;rw[S.o])
  |(refine A2 rfl 23 _ _ rfl V.heap.size rfl (Ad (Rf.mk a.name (Aj t.reaches a))) rfl (World.alloc_heap_new _ _) rfl (CK _) (AO _) ?_;intro ag G;have i:=ya G;clear G)
  |(refine yf rfl 23 _ rfl V.heap.size 0 rfl (Ad (Rf.mk a.name (Aj t.reaches a))) _ (A6 i.o.row) qD rfl (CK _) ?_)
  |(refine A7 rfl 23 _ _ rfl w.heap.size 1 rfl (Ad (Rf.mk a.name (Aj t.reaches a))) rfl (p:=([.string h])) (m:=(Ad a)) (q:=(.bool true::(c0++(Ad c)))) (t:=59) (CN d.o u.o i.o J.o) (by simp) rfl (CK _) (AO _) ?_;intro ah E;have D:Hid (AB ag ah w.heap.size (.string h::(Ad (Rf.mk a.name (Aj t.reaches a))++(.bool true::(c0++(Ad c))))) 59):=ya (by simpa[yg] using E);clear E)
 )
 clear l0 l1 l2 l3
 obtain ⟨hB,W,_⟩:=Ov d.o K.o (by simp) u.o i.o D.o
 clear d K u i D J l
 have d:=ya hB;have K:=ya W
 clear hB W
 have L:Hid (.string h::(Ad (Rf.mk a.name (Aj t.reaches a))++(.bool true::(c0++(Ad c))))=(.string h::(Ad (Rf.mk a.name (Aj t.reaches a))))++(([.bool true])++(c0++(Ad c)))):=ya (by first|rfl|simp[yg])
 have H:=ya (d.o.part L.o (off:=3) (by simp[A9]))
 have cr:=CL H.o
 clear L H
 go_upto_region 4 with fail
 have J:Hid (.string h::(Ad (Rf.mk a.name (Aj t.reaches a))++(.bool true::(c0++(Ad c))))=(.string h::(Ad (Rf.mk a.name (Aj t.reaches a))++(.bool true::(c0))))++((Ad c)++([]))):=ya (by first|rfl|simp[yg])
 have l:=ya (d.o.part J.o (off:=10) (by simp[A9,I.o]))
 go_upto_region 8 with (first
  |(refine DX rfl B rfl rfl w.heap.size 10 (fun Q=>by subst Q;rfl) (by go_simp) ?_)
  |(refine Kb rfl B rfl rfl w.heap.size 10 (fun Q=>by subst Q;rfl) (Ad c) _ l.o qD rfl (CK _) ?_)
  |(refine IT rfl B rfl rfl ?_)
  |(refine KV rfl B rfl rfl c (fun Q=>by subst Q;rfl) (fun Q=>by subst Q;rfl) ?_)
  |(refine Ae B rfl _ rfl rfl ?_)
  |(refine Ak (g:=B) rfl _ _ _ rfl rfl (.bool (B&&Hs c)) (by cases B<;>rfl) ?_;generalize f:(B&&Hs c)=b1;have M:=ya f;clear f)
  |(refine Ab (g:=B) z7 rfl ?_;simp only[CW,Aa])
  |(refine Ab (g:=B) (Av B) rfl ?_;simp only[CW,Aa])
  |(rw[AD B (Hs c)];generalize f:(B&&Hs c)=b1;have M:=ya f;clear f))
 clear J l
 have J:Hid (.string h::(Ad (Rf.mk a.name (Aj t.reaches a))++(.bool true::(c0++(Ad c))))=(.string h::(Ad (Rf.mk a.name (Aj t.reaches a))++([.bool true])))++((c0)++(Ad c))):=ya (by first|rfl|simp[yg])
 have l:=ya (d.o.part J.o (off:=4) (by simp[A9]))
 obtain ⟨l0,l1,l2,l3⟩:=d.o.scope HS.o.cells
 obtain ⟨v0,_⟩:=K.o
 have HC:=ya (BD (F:=FL F [w.heap.size,w.heap.size+2]) (HS.o.lets.up d.o.below) v0 (Br HF.o d.o (by have h1:=d.o.size;intro k hk;simp at hk;omega)))
 generalize O:Dp t.lets e0=q2 at HC
 generalize hm:BR t.lets e0=m2 at HC
 have a7:=ya O;have af:=ya hm
 clear O hm v0
 go_upto_region 10 with (first
  |(refine yf rfl 26 _ rfl w.heap.size 4 rfl c0 _ l.o qF rfl (AE I.o) ?_)
  |(go_at_call 87;refine HC.o.mono ?_;rintro e P ⟨y,ab,rfl,T,a8,C⟩;have s:=ya T;have ae:=ya a8;have u:=ya C;have A:=ya T.len;clear T a8 C)
  |(refine A2 rfl 26 _ _ rfl (P.heap.size) rfl y rfl (World.alloc_heap_new _ _) (by rw[s.o.len];rfl) (AE s.o.len) (A8 s.o) ?_;intro aj G;have i:=ya G;clear G)
  |(refine yf rfl 26 _ rfl (P.heap.size) 0 rfl y _ (A6 i.o.row) qF rfl (AE s.o.len) ?_)
  |(refine A7 rfl 26 _ _ rfl w.heap.size 4 rfl y rfl (p:=(.string h::(Ad (Rf.mk a.name (Aj t.reaches a))++([.bool true])))) (m:=(c0)) (q:=(Ad c)) (t:=59) (CN d.o u.o i.o J.o) (by simp[A9]) (by rw[I.o,A.o]) (AE s.o.len) (A8 s.o) ?_;intro Y E;have D:Hid (AB aj Y w.heap.size (.string h::(Ad (Rf.mk a.name (Aj t.reaches a))++(.bool true::(y++(Ad c))))) 59):=ya (by simpa[yg] using E);clear E)
 )
 clear l0 l1 l2 l3
 obtain ⟨hB,hA,ac,W,hE⟩:=EB d.o K.o (by simp) u.o s.o rfl i.o D.o
 clear d K s u i D J l HC
 have d:=ya hB;have HA:=ya hA;have al:=ya ac;have ak:=A
 have K:Hid (VE F [w.heap.size,w.heap.size+2,P.heap.size] Y [y] [ab]):=ya (by
  obtain ⟨v0,_⟩:=W
  exact ⟨hE,trivial⟩)
 clear hB hA ac W hE
 obtain ⟨zr,a6,Z⟩:=d.o.r
 have HZ:=ya a6;have ai:=ya Z
 clear a6 Z
 obtain ⟨row,j⟩:∃r:LV,r=.string h::(Ad (Rf.mk a.name (Aj t.reaches a))++(.bool true::(y++(Ad c)))):=⟨_,rfl⟩
 rw[<-j] at d
 have HN:Hid (row.length=12):=ya (by rw[j];exact (by simp[A9,A.o]))
 have ad:Hid (∀v∈row,v.oneCell'=true):=ya (by
  obtain ⟨v0,_⟩:=K.o
  rw[j]
  exact (An rfl (Ai (AO _) (An rfl (Ai (A8 v0) (AO _))))))
 have aa:=ya j
 clear j
 go_wp2_with (first
  |(refine yf rfl 59 _ rfl w.heap.size 0 rfl row _ (A6 d.o.x) qV rfl (AX (n:=12) (by kernel_rfl) HN.o) ?_)
  |(refine A2 rfl 59 _ _ rfl (w.heap.size+2) rfl row rfl ai.o (by rw[yp,HZ.o,HN.o]) (AX (n:=12) (by kernel_rfl) HN.o) ad.o ?_;intro w9 X;have R:=ya X;clear X)
  |(refine Ae b1 rfl _ rfl rfl ?_)
  |(refine Ak (g:=b1) rfl _ _ _ rfl rfl (.bool (b1&&q2)) (by cases b1<;>rfl) ?_;generalize f:(b1&&q2)=b2;have N:=ya f;clear f)
  |(refine Ab (g:=b1) z7 rfl ?_;simp only[CW,Aa])
  |(refine Ab (g:=b1) (Av b1) rfl ?_;simp only[CW,Aa])
  |(rw[AD b1 (q2)];generalize f:(b1&&q2)=b2;have N:=ya f;clear f))
 refine At rfl rfl R.o.row qV rfl (AX (n:=12) (by kernel_rfl) HN.o) ?_
 obtain ⟨v0,_⟩:=FI K.o (by simp) R.o
 refine ⟨row,⟨h,⟨a.name,Aj t.reaches a⟩,true,ab,c⟩,BH rfl (yz Value.bool (by simp only[Cc,zO,S.o,a7.o,M.o,N.o])),⟨h1,h2,h3,y,aa.o,v0⟩,?_,R.o.below d.o.below (by omega)⟩
 intro O
 simp only[Cc,zO,S.o,a7.o,ym] at O
 obtain ⟨⟨g1,g2⟩,g3⟩:=O
 simp only[BQ,H6,ae.o g3,af.o,zO]
theorem Rq{j:ByteArray}{a c:Rf}{e0:Ex}{c0:LV}{F:NP}{w:World}{ls:LV}{a0 a1 a2 a3:AF}{t:Tb}(h1:j.size<=maxLen)(h2:a.name.size<=maxLen)(h3:c.name.size<=maxLen)(hx:Bh (GF F w) w e0 c0)(hs:MN w ls a0 a1 a2 a3 t)(hF:∀b,F b->b < w.heap.size):
  Calls Try.prog 58 #[.agg (.string j::(Ad a++(.bool false::(c0++Ad c)))).toArray,.agg ls.toArray] w (ES E9 F w (Cc t ⟨j,a,false,e0,c⟩) (BQ t ⟨j,a,false,e0,c⟩)):=by
 have X:=ya hs
 have HF:=ya hF
 clear hs hF
 go_enter Try.func58,Try.ntmps58
 go_upto_region 1 with (first|(refine AR rfl 59 _ rfl (.string j::(Ad a++(.bool false::(c0++(Ad c))))).toArray rfl ?_)|(refine AR rfl 109 _ rfl ls.toArray rfl ?_))
 obtain ⟨w1,W⟩:∃z:World,z=((w.alloc (.cells (.string j::(Ad a++(.bool false::(c0++(Ad c))))).toArray 59)).alloc (.cells ls.toArray 109)).alloc (.cells je 59):=⟨_,rfl⟩
 rw[<-W]
 have d:=ya (FF (n:=12) (row:=.string j::(Ad a++(.bool false::(c0++(Ad c))))) W rfl rfl)
 clear W
 have H:Hid (VE F [w.heap.size,w.heap.size+2] w1 [c0] [e0]):=ya (FH ⟨hx,trivial⟩ d.o.below (by intro k hk;simp at hk;omega))
 have G:=ya (hx).len
 clear hx
 have I:Hid (.string j::(Ad a++(.bool false::(c0++(Ad c))))=([.string j])++((Ad a)++(.bool false::(c0++(Ad c))))):=ya (by first|rfl|simp[yg])
 have B:=ya (d.o.part I.o (off:=1) (by simp))
 obtain ⟨l0,l1,Y,l3⟩:=d.o.scope X.o.cells
 generalize K:Dh t.reaches a=L
 have T:=ya K
 clear K
 go_upto_region 3 with (first
  |(refine yf rfl 23 _ rfl w.heap.size 1 rfl (Ad a) _ B.o qD rfl (CK _) ?_)
  |(go_at_call 88;refine (DN (X.o.reaches.up d.o.below) a).mono ?_;rintro e Z ⟨rfl,s⟩;have h:=ya s;clear s;rw[T.o])
  |(refine A2 rfl 23 _ _ rfl Z.heap.size rfl (Ad (Rf.mk a.name (Aj t.reaches a))) rfl (World.alloc_heap_new _ _) rfl (CK _) (AO _) ?_;intro ak A;have f:=ya A;clear A)
  |(refine yf rfl 23 _ rfl Z.heap.size 0 rfl (Ad (Rf.mk a.name (Aj t.reaches a))) _ (A6 f.o.row) qD rfl (CK _) ?_)
  |(refine A7 rfl 23 _ _ rfl w.heap.size 1 rfl (Ad (Rf.mk a.name (Aj t.reaches a))) rfl (p:=([.string j])) (m:=(Ad a)) (q:=(.bool false::(c0++(Ad c)))) (t:=59) (CN d.o h.o f.o I.o) (by simp) rfl (CK _) (AO _) ?_;intro al y;have u:Hid (AB ak al w.heap.size (.string j::(Ad (Rf.mk a.name (Aj t.reaches a))++(.bool false::(c0++(Ad c))))) 59):=ya (by simpa[yg] using y);clear y)
 )
 clear l0 l1 Y l3
 obtain ⟨Q,N,_⟩:=Ov d.o H.o (by simp) h.o f.o u.o
 clear d H h f u I B
 have d:=ya Q;have H:=ya N
 clear Q N
 have M:Hid (.string j::(Ad (Rf.mk a.name (Aj t.reaches a))++(.bool false::(c0++(Ad c))))=(.string j::(Ad (Rf.mk a.name (Aj t.reaches a))))++(([.bool false])++(c0++(Ad c)))):=ya (by first|rfl|simp[yg])
 have J:=ya (d.o.part M.o (off:=3) (by simp[A9]))
 have cr:=CL J.o
 clear M J
 go_upto_region 5 with fail
 clear cr
 have I:Hid (.string j::(Ad (Rf.mk a.name (Aj t.reaches a))++(.bool false::(c0++(Ad c))))=(.string j::(Ad (Rf.mk a.name (Aj t.reaches a))++(.bool false::(c0))))++((Ad c)++([]))):=ya (by first|rfl|simp[yg])
 have B:=ya (d.o.part I.o (off:=10) (by simp[A9,G.o]))
 obtain ⟨l0,l1,Y,l3⟩:=d.o.scope X.o.cells
 generalize K:Dh t.crops c=q2
 have R:=ya K
 clear K
 go_upto_region 8 with (first
  |(refine yf rfl 23 _ rfl w.heap.size 10 rfl (Ad c) _ B.o qD rfl (CK _) ?_)
  |(go_at_call 88;refine (DN (X.o.crops.up d.o.below) c).mono ?_;rintro e a8 ⟨rfl,s⟩;have h:=ya s;clear s;rw[R.o])
  |(refine A2 rfl 23 _ _ rfl a8.heap.size rfl (Ad (Rf.mk c.name (Aj t.crops c))) rfl (World.alloc_heap_new _ _) rfl (CK _) (AO _) ?_;intro ap A;have f:=ya A;clear A)
  |(refine yf rfl 23 _ rfl a8.heap.size 0 rfl (Ad (Rf.mk c.name (Aj t.crops c))) _ (A6 f.o.row) qD rfl (CK _) ?_)
  |(refine A7 rfl 23 _ _ rfl w.heap.size 10 rfl (Ad (Rf.mk c.name (Aj t.crops c))) rfl (p:=(.string j::(Ad (Rf.mk a.name (Aj t.reaches a))++(.bool false::(c0))))) (m:=(Ad c)) (q:=([])) (t:=59) (CN d.o h.o f.o I.o) (by simp[A9,G.o]) rfl (CK _) (AO _) ?_;intro ai y;have u:Hid (AB ap ai w.heap.size (.string j::(Ad (Rf.mk a.name (Aj t.reaches a))++(.bool false::(c0++(Ad (Rf.mk c.name (Aj t.crops c))))))) 59):=ya (by simpa[yg] using y);clear y)
  |(refine Ae L rfl _ rfl rfl ?_)
  |(refine Ak (g:=L) rfl _ _ _ rfl rfl (.bool (L&&q2)) (by cases L<;>rfl) ?_;generalize i:(L&&q2)=b1;have O:=ya i;clear i)
  |(refine Ab (g:=L) z7 rfl ?_;simp only[CW,Aa])
  |(refine Ab (g:=L) (Av L) rfl ?_;simp only[CW,Aa])
  |(rw[AD L (q2)];generalize i:(L&&q2)=b1;have O:=ya i;clear i))
 clear l0 l1 Y l3
 obtain ⟨Q,N,_⟩:=Ov d.o H.o (by simp) h.o f.o u.o
 clear d H h f u I B
 have d:=ya Q;have H:=ya N
 clear Q N
 have I:Hid (.string j::(Ad (Rf.mk a.name (Aj t.reaches a))++(.bool false::(c0++(Ad (Rf.mk c.name (Aj t.crops c))))))=(.string j::(Ad (Rf.mk a.name (Aj t.reaches a))++([.bool false])))++((c0)++(Ad (Rf.mk c.name (Aj t.crops c))))):=ya (by first|rfl|simp[yg])
 have B:=ya (d.o.part I.o (off:=4) (by simp[A9]))
 obtain ⟨l0,l1,Y,l3⟩:=d.o.scope X.o.cells
 obtain ⟨v0,_⟩:=H.o
 have HC:=ya (BD (F:=FL F [w.heap.size,w.heap.size+2]) (X.o.lets.up d.o.below) v0 (Br HF.o d.o (by have h1:=d.o.size;intro k hk;simp at hk;omega)))
 generalize K:Dp t.lets e0=q3 at HC
 generalize hm:BR t.lets e0=m3 at HC
 have a6:=ya K;have an:=ya hm
 clear K hm v0
 go_upto_region 10 with (first
  |(refine yf rfl 26 _ rfl w.heap.size 4 rfl c0 _ B.o qF rfl (AE G.o) ?_)
  |(go_at_call 87;refine HC.o.mono ?_;rintro e U ⟨D,af,rfl,V,ad,s⟩;have C:=ya V;have am:=ya ad;have h:=ya s;have E:=ya V.len;clear V ad s)
  |(refine A2 rfl 26 _ _ rfl (U.heap.size) rfl D rfl (World.alloc_heap_new _ _) (by rw[C.o.len];rfl) (AE C.o.len) (A8 C.o) ?_;intro aj A;have f:=ya A;clear A)
  |(refine yf rfl 26 _ rfl (U.heap.size) 0 rfl D _ (A6 f.o.row) qF rfl (AE C.o.len) ?_)
  |(refine A7 rfl 26 _ _ rfl w.heap.size 4 rfl D rfl (p:=(.string j::(Ad (Rf.mk a.name (Aj t.reaches a))++([.bool false])))) (m:=(c0)) (q:=(Ad (Rf.mk c.name (Aj t.crops c)))) (t:=59) (CN d.o h.o f.o I.o) (by simp[A9]) (by rw[G.o,E.o]) (AE C.o.len) (A8 C.o) ?_;intro ab y;have u:Hid (AB aj ab w.heap.size (.string j::(Ad (Rf.mk a.name (Aj t.reaches a))++(.bool false::(D++(Ad (Rf.mk c.name (Aj t.crops c))))))) 59):=ya (by simpa[yg] using y);clear y)
 )
 clear l0 l1 Y l3
 obtain ⟨Q,hA,ag,N,hE⟩:=EB d.o H.o (by simp) h.o C.o rfl f.o u.o
 clear d H C h f u I B HC
 have d:=ya Q;have HA:=ya hA;have ar:=ya ag;have aq:=E
 have H:Hid (VE F [w.heap.size,w.heap.size+2,U.heap.size] ab [D] [af]):=ya (by
  obtain ⟨v0,_⟩:=N
  exact ⟨hE,trivial⟩)
 clear Q hA ag N hE
 obtain ⟨zr,ac,aa⟩:=d.o.r
 have HZ:=ya ac;have ao:=ya aa
 clear ac aa
 obtain ⟨row,l⟩:∃r:LV,r=.string j::(Ad (Rf.mk a.name (Aj t.reaches a))++(.bool false::(D++(Ad (Rf.mk c.name (Aj t.crops c)))))):=⟨_,rfl⟩
 rw[<-l] at d
 have HN:Hid (row.length=12):=ya (by rw[l];exact (by simp[A9,E.o]))
 have ah:Hid (∀v∈row,v.oneCell'=true):=ya (by
  obtain ⟨v0,_⟩:=H.o
  rw[l]
  exact (An rfl (Ai (AO _) (An rfl (Ai (A8 v0) (AO _))))))
 have ae:=ya l
 clear l
 go_wp2_with (first
  |(refine yf rfl 59 _ rfl w.heap.size 0 rfl row _ (A6 d.o.x) qV rfl (AX (n:=12) (by kernel_rfl) HN.o) ?_)
  |(refine A2 rfl 59 _ _ rfl (w.heap.size+2) rfl row rfl ao.o (by rw[yp,HZ.o,HN.o]) (AX (n:=12) (by kernel_rfl) HN.o) ah.o ?_;intro w9 a7;have S:=ya a7;clear a7)
  |(refine Ae b1 rfl _ rfl rfl ?_)
  |(refine Ak (g:=b1) rfl _ _ _ rfl rfl (.bool (b1&&q3)) (by cases b1<;>rfl) ?_;generalize i:(b1&&q3)=b2;have P:=ya i;clear i)
  |(refine Ab (g:=b1) z7 rfl ?_;simp only[CW,Aa])
  |(refine Ab (g:=b1) (Av b1) rfl ?_;simp only[CW,Aa])
  |(rw[AD b1 (q3)];generalize i:(b1&&q3)=b2;have P:=ya i;clear i))
 refine At rfl rfl S.o.row qV rfl (AX (n:=12) (by kernel_rfl) HN.o) ?_
 obtain ⟨v0,_⟩:=FI H.o (by simp) S.o
 refine ⟨row,⟨j,⟨a.name,Aj t.reaches a⟩,false,af,⟨c.name,Aj t.crops c⟩⟩,BH rfl (yz Value.bool (by simp only[Cc,if_false,xI,T.o,R.o,a6.o,O.o,P.o])),⟨h1,h2,h3,D,ae.o,v0⟩,?_,S.o.below d.o.below (by omega)⟩
 intro K
 simp only[Cc,if_false,xI,T.o,R.o,a6.o,ym] at K
 obtain ⟨⟨g1,g2⟩,g3⟩:=K
 simp only[BQ,H6,am.o g3,an.o,if_false,xI]
theorem Qb{d:BN}{F:NP}{w:World}{cs ls:LV}{h0 h1 h2 h3:AF}{t:Tb}(e:E9 (GF F w) w cs d)(hs:MN w ls h0 h1 h2 h3 t)(c:∀b,F b->b < w.heap.size):
  Calls Try.prog 58 #[.agg cs.toArray,.agg ls.toArray] w (ES E9 F w (Cc t d) (BQ t d)):=by
 obtain ⟨h,f,river,e0,g⟩:=d
 obtain ⟨h1,h2,h3,c0,rfl,a⟩:=e
 cases river
 ·exact Rq h1 h2 h3 a hs c
 ·exact Tf h1 h2 h3 a hs c
end Go.Proofs.Ytghepahgkcigpaa
