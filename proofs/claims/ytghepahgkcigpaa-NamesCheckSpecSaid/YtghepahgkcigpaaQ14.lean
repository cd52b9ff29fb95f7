/- The reference's right (printed by gen_yl.py). -/
import Derived.Test.YtghepahgkcigpaaQ0
import Derived.Test.YtghepahgkcigpaaQ11
import Derived.Test.YtghepahgkcigpaaQ8
set_option maxRecDepth 100000
set_option maxHeartbeats 32000000
set_option linter.unusedSimpArgs false
namespace Go.Proofs.Ytghepahgkcigpaa
open Go.RowKit
theorem Ro{l G:Int}{E:ByteArray}{d dr:Rf}{e0 e1 e2 e3 e4:Ex}{c0 c1 c2 M D:LV}{F:NP}{w:World}{ls:LV}{a0 a1 a2 a3:AF}{t:Tb}(hk:l=1)(h1:E.size<=maxLen)(h2:d.name.size<=maxLen)(h3:dr.name.size<=maxLen)(aw:Bh (GF F w) w e0 c0)(av:Bh (GF F w) w e1 c1)(u:Bh (GF F w) w e2 c2)(au:Bh (GF F w) w e3 M)(ay:Bh (GF F w) w e4 D)(hs:MN w ls a0 a1 a2 a3 t)(hF:∀b,F b->b < w.heap.size):
  Calls Try.prog 60 #[.agg (.int .i64 l::(.string E::(Ad d++(Ad dr++(.int .i64 G::(c0++(c1++(c2++(M++D))))))))).toArray,.agg ls.toArray] w (ES CQ F w (BA t ⟨l,E,d,dr,G,e0,e1,e2,e3,e4⟩) (Bg t ⟨l,E,d,dr,G,e0,e1,e2,e3,e4⟩)):=by
 have HS:=ya hs
 have HF:=ya hF
 have HK:=ya hk
 have ca:(l==1)=true:=by simpa using hk
 clear hs hF hk
 go_enter Try.func60,Try.ntmps60
 go_upto_region 1 with (first|(refine AR rfl 68 _ rfl (iV l::(.string E::(Ad d++(Ad dr++(iV G::(c0++(c1++(c2++(M++(D)))))))))).toArray rfl ?_)|(refine AR rfl 109 _ rfl ls.toArray rfl ?_))
 obtain ⟨w1,ba⟩:∃z:World,z=((w.alloc (.cells (iV l::(.string E::(Ad d++(Ad dr++(iV G::(c0++(c1++(c2++(M++(D)))))))))).toArray 68)).alloc (.cells ls.toArray 109)).alloc (.cells jc 68):=⟨_,rfl⟩
 rw[<-ba]
 have f:=ya (FF (n:=37) (row:=iV l::(.string E::(Ad d++(Ad dr++(iV G::(c0++(c1++(c2++(M++(D)))))))))) ba rfl rfl)
 clear ba
 have S:Hid (VE F [w.heap.size,w.heap.size+2] w1 [c0,c1,c2,M,D] [e0,e1,e2,e3,e4]):=ya (FH ⟨aw,av,u,au,ay,trivial⟩ f.o.below (by intro k hk;simp at hk;omega))
 have ar:=ya (aw).len
 have ap:=ya (av).len
 have af:=ya (u).len
 have aj:=ya (au).len
 have ak:=ya (ay).len
 clear aw av u au ay
 have R:Hid (iV l::(.string E::(Ad d++(Ad dr++(iV G::(c0++(c1++(c2++(M++(D)))))))))=(iV l::([.string E]))++((Ad d)++(Ad dr++(iV G::(c0++(c1++(c2++(M++(D))))))))):=ya (by first|rfl|simp[yg])
 have A:=ya (f.o.part R.o (off:=2) (by simp))
 obtain ⟨l0,l1,l2,l3⟩:=f.o.scope HS.o.cells
 generalize hq:Dh t.farms d=q1
 have b9:=ya hq
 clear hq
 go_upto_region 3 with (first
  |(refine yf rfl 23 _ rfl w.heap.size 2 rfl (Ad d) _ A.o qD rfl (CK _) ?_)
  |(go_at_call 88;refine (DN (HS.o.farms.up f.o.below) d).mono ?_;rintro e bb ⟨rfl,H⟩;have i:=ya H;clear H;rw[b9.o])
  |(refine A2 rfl 23 _ _ rfl bb.heap.size rfl (Ad (Rf.mk d.name (Aj t.farms d))) rfl (World.alloc_heap_new _ _) rfl (CK _) (AO _) ?_;intro cc L;have h:=ya L;clear L)
  |(refine yf rfl 23 _ rfl bb.heap.size 0 rfl (Ad (Rf.mk d.name (Aj t.farms d))) _ (A6 h.o.row) qD rfl (CK _) ?_)
  |(refine A7 rfl 23 _ _ rfl w.heap.size 2 rfl (Ad (Rf.mk d.name (Aj t.farms d))) rfl (p:=(iV l::([.string E]))) (m:=(Ad d)) (q:=(Ad dr++(iV G::(c0++(c1++(c2++(M++(D)))))))) (t:=68) (CN f.o i.o h.o R.o) (by simp) rfl (CK _) (AO _) ?_;intro cd J;have I:Hid (AB cc cd w.heap.size (iV l::(.string E::(Ad (Rf.mk d.name (Aj t.farms d))++(Ad dr++(iV G::(c0++(c1++(c2++(M++(D)))))))))) 68):=ya (by simpa[yg] using J);clear J)
 )
 clear l0 l1 l2 l3
 obtain ⟨hB,hV,_⟩:=Ov f.o S.o (by simp) i.o h.o I.o
 clear f S i h I R A
 have f:=ya hB;have S:=ya hV
 clear hB hV
 have ai:Hid (iV l::(.string E::(Ad (Rf.mk d.name (Aj t.farms d))++(Ad dr++(iV G::(c0++(c1++(c2++(M++(D)))))))))=([])++(([iV l])++(.string E::(Ad (Rf.mk d.name (Aj t.farms d))++(Ad dr++(iV G::(c0++(c1++(c2++(M++(D))))))))))):=ya (by first|rfl|simp[yg])
 have ab:=ya (f.o.part ai.o (off:=0) (by simp))
 have ck:=CL ab.o
 clear ai ab
 go_upto_region 4 with (first
  |(refine DX rfl q1 rfl rfl w.heap.size 0 (fun Y=>by subst Y;rfl) (by go_simp) ?_)
  |(refine Fs rfl q1 rfl rfl w.heap.size 0 (fun Y=>by subst Y;rfl) l (by go_simp) ?_)
  |(refine GQ rfl q1 rfl rfl l 1 (decide (l≥1)) (fun Y=>by subst Y;rfl) (fun Y=>by subst Y;rfl) (by go_simp) (by go_simp) ?_)
  |(refine Ae q1 rfl _ rfl rfl ?_)
  |(refine Ak (g:=q1) rfl _ _ _ rfl rfl (.bool (q1&&decide (l≥1))) (by cases q1<;>rfl) ?_;generalize a:(q1&&decide (l≥1))=b1;have ag:=ya a;clear a)
  |(refine Ab (g:=q1) z7 rfl ?_;simp only[CW,Aa])
  |(refine Ab (g:=q1) (Av q1) rfl ?_;simp only[CW,Aa])
  |(rw[AD q1 (decide (l≥1))];generalize a:(q1&&decide (l≥1))=b1;have ag:=ya a;clear a)
  |(refine DX rfl b1 rfl rfl w.heap.size 0 (fun Y=>by subst Y;rfl) (by go_simp) ?_)
  |(refine Fs rfl b1 rfl rfl w.heap.size 0 (fun Y=>by subst Y;rfl) l (by go_simp) ?_)
  |(refine GQ rfl b1 rfl rfl l 3 (decide (l<=3)) (fun Y=>by subst Y;rfl) (fun Y=>by subst Y;rfl) (by go_simp) (by go_simp) ?_)
  |(refine Ae b1 rfl _ rfl rfl ?_)
  |(refine Ak (g:=b1) rfl _ _ _ rfl rfl (.bool (b1&&decide (l<=3))) (by cases b1<;>rfl) ?_;generalize a:(b1&&decide (l<=3))=b2;have al:=ya a;clear a)
  |(refine Ab (g:=b1) z7 rfl ?_;simp only[CW,Aa])
  |(refine Ab (g:=b1) (Av b1) rfl ?_;simp only[CW,Aa])
  |(rw[AD b1 (decide (l<=3))];generalize a:(b1&&decide (l<=3))=b2;have al:=ya a;clear a))
 go_upto_region 5 with fail
 clear ck
 have R:Hid (iV l::(.string E::(Ad (Rf.mk d.name (Aj t.farms d))++(Ad dr++(iV G::(c0++(c1++(c2++(M++(D)))))))))=(iV l::(.string E::(Ad (Rf.mk d.name (Aj t.farms d)))))++((Ad dr)++(iV G::(c0++(c1++(c2++(M++(D)))))))):=ya (by first|rfl|simp[yg])
 have A:=ya (f.o.part R.o (off:=4) (by simp[A9]))
 go_upto_region 9 with (first
  |(refine DX rfl b2 rfl rfl w.heap.size 4 (fun Y=>by subst Y;rfl) (by go_simp) ?_)
  |(refine Kb rfl b2 rfl rfl w.heap.size 4 (fun Y=>by subst Y;rfl) (Ad dr) _ A.o qD rfl (CK _) ?_)
  |(refine IT rfl b2 rfl rfl ?_)
  |(refine KV rfl b2 rfl rfl dr (fun Y=>by subst Y;rfl) (fun Y=>by subst Y;rfl) ?_)
  |(refine Ae b2 rfl _ rfl rfl ?_)
  |(refine Ak (g:=b2) rfl _ _ _ rfl rfl (.bool (b2&&Hs dr)) (by cases b2<;>rfl) ?_;generalize a:(b2&&Hs dr)=b3;have aq:=ya a;clear a)
  |(refine Ab (g:=b2) z7 rfl ?_;simp only[CW,Aa])
  |(refine Ab (g:=b2) (Av b2) rfl ?_;simp only[CW,Aa])
  |(rw[AD b2 (Hs dr)];generalize a:(b2&&Hs dr)=b3;have aq:=ya a;clear a))
 clear R A ca
 have R:Hid (iV l::(.string E::(Ad (Rf.mk d.name (Aj t.farms d))++(Ad dr++(iV G::(c0++(c1++(c2++(M++(D)))))))))=(iV l::(.string E::(Ad (Rf.mk d.name (Aj t.farms d))++(Ad dr++([iV G])))))++((c0)++(c1++(c2++(M++(D)))))):=ya (by first|rfl|simp[yg])
 have A:=ya (f.o.part R.o (off:=7) (by simp[A9]))
 obtain ⟨l0,l1,l2,l3⟩:=f.o.scope HS.o.cells
 obtain ⟨v0,Z,X,v3,v4,_⟩:=S.o
 have V:=ya (BD (F:=FL F [w.heap.size,w.heap.size+2]) (HS.o.lets.up f.o.below) v0 (Br HF.o f.o (by have h1:=f.o.size;intro k hk;simp at hk;omega)))
 generalize hq:Dp t.lets e0=q2 at V
 generalize hm:BR t.lets e0=m2 at V
 have bn:=ya hq;have cb:=ya hm
 clear hq hm v0 Z X v3 v4
 go_upto_region 12 with (first
  |(refine yf rfl 26 _ rfl w.heap.size 7 rfl c0 _ A.o qF rfl (AE ar.o) ?_)
  |(go_at_call 87;refine V.o.mono ?_;rintro e B ⟨j,aa,rfl,u,P,H⟩;have c:=ya u;have c8:=ya P;have i:=ya H;have s:=ya u.len;clear u P H)
  |(refine A2 rfl 26 _ _ rfl (B.heap.size) rfl j rfl (World.alloc_heap_new _ _) (by rw[c.o.len];rfl) (AE c.o.len) (A8 c.o) ?_;intro cl L;have h:=ya L;clear L)
  |(refine yf rfl 26 _ rfl (B.heap.size) 0 rfl j _ (A6 h.o.row) qF rfl (AE c.o.len) ?_)
  |(refine A7 rfl 26 _ _ rfl w.heap.size 7 rfl j rfl (p:=(iV l::(.string E::(Ad (Rf.mk d.name (Aj t.farms d))++(Ad dr++([iV G])))))) (m:=(c0)) (q:=(c1++(c2++(M++(D))))) (t:=68) (CN f.o i.o h.o R.o) (by simp[A9]) (by rw[ar.o,s.o]) (AE c.o.len) (A8 c.o) ?_;intro bg J;have I:Hid (AB cl bg w.heap.size (iV l::(.string E::(Ad (Rf.mk d.name (Aj t.farms d))++(Ad dr++(iV G::(j++(c1++(c2++(M++(D)))))))))) 68):=ya (by simpa[yg] using J);clear J)
  |(refine Ae b3 rfl _ rfl rfl ?_)
  |(refine Ak (g:=b3) rfl _ _ _ rfl rfl (.bool (b3&&q2)) (by cases b3<;>rfl) ?_;generalize a:(b3&&q2)=b4;have ae:=ya a;clear a)
  |(refine Ab (g:=b3) z7 rfl ?_;simp only[CW,Aa])
  |(refine Ab (g:=b3) (Av b3) rfl ?_;simp only[CW,Aa])
  |(rw[AD b3 (q2)];generalize a:(b3&&q2)=b4;have ae:=ya a;clear a))
 clear l0 l1 l2 l3
 obtain ⟨hB,hA,Q,hV,hE⟩:=EB f.o S.o (by simp) i.o c.o rfl h.o I.o
 clear f S c i h I R A V
 have f:=ya hB;have HA:=ya hA;have N:=ya Q;have U:=s
 have S:Hid (VE F [w.heap.size,w.heap.size+2,B.heap.size] bg [j,c1,c2,M,D] [aa,e1,e2,e3,e4]):=ya (by
  obtain ⟨v0,Z,X,v3,v4,_⟩:=hV
  exact ⟨hE,Z,X,v3,v4,trivial⟩)
 clear hB hA Q hV hE
 have R:Hid (iV l::(.string E::(Ad (Rf.mk d.name (Aj t.farms d))++(Ad dr++(iV G::(j++(c1++(c2++(M++(D)))))))))=(iV l::(.string E::(Ad (Rf.mk d.name (Aj t.farms d))++(Ad dr++(iV G::(j))))))++((c1)++(c2++(M++(D))))):=ya (by first|rfl|simp[yg])
 have A:=ya (f.o.part R.o (off:=13) (by simp[A9,s.o]))
 obtain ⟨l0,l1,l2,l3⟩:=f.o.scope HS.o.cells
 obtain ⟨v0,Z,X,v3,v4,_⟩:=S.o
 have V:=ya (BD (F:=FL F [w.heap.size,w.heap.size+2,B.heap.size]) (HS.o.lets.up f.o.below) Z (Br HF.o f.o (by have h1:=f.o.size;have h2:=(yd.1 HA.o).1;intro k hk;simp at hk;omega)))
 generalize hq:Dp t.lets e1=q3 at V
 generalize hm:BR t.lets e1=m3 at V
 have bd:=ya hq;have ch:=ya hm
 clear hq hm v0 Z X v3 v4
 go_upto_region 15 with (first
  |(refine yf rfl 26 _ rfl w.heap.size 13 rfl c1 _ A.o qF rfl (AE ap.o) ?_)
  |(go_at_call 87;refine V.o.mono ?_;rintro e cq ⟨y,ac,rfl,u,P,H⟩;have c:=ya u;have cf:=ya P;have i:=ya H;have C:=ya u.len;clear u P H)
  |(refine A2 rfl 26 _ _ rfl (B.heap.size) rfl y rfl (Bl i.o HA.o) (by rw[yp,U.o,c.o.len]) (AE c.o.len) (A8 c.o) ?_;intro c7 L;have h:=ya L;clear L)
  |(refine yf rfl 26 _ rfl (B.heap.size) 0 rfl y _ (A6 h.o.row) qF rfl (AE c.o.len) ?_)
  |(refine A7 rfl 26 _ _ rfl w.heap.size 13 rfl y rfl (p:=(iV l::(.string E::(Ad (Rf.mk d.name (Aj t.farms d))++(Ad dr++(iV G::(j))))))) (m:=(c1)) (q:=(c2++(M++(D)))) (t:=68) (Di f.o i.o N.o h.o R.o) (by simp[A9,s.o]) (by rw[ap.o,C.o]) (AE c.o.len) (A8 c.o) ?_;intro bi J;have I:Hid (AB c7 bi w.heap.size (iV l::(.string E::(Ad (Rf.mk d.name (Aj t.farms d))++(Ad dr++(iV G::(j++(y++(c2++(M++(D)))))))))) 68):=ya (by simpa[yg] using J);clear J)
  |(refine Ae b4 rfl _ rfl rfl ?_)
  |(refine Ak (g:=b4) rfl _ _ _ rfl rfl (.bool (b4&&q3)) (by cases b4<;>rfl) ?_;generalize a:(b4&&q3)=b5;have ao:=ya a;clear a)
  |(refine Ab (g:=b4) z7 rfl ?_;simp only[CW,Aa])
  |(refine Ab (g:=b4) (Av b4) rfl ?_;simp only[CW,Aa])
  |(rw[AD b4 (q3)];generalize a:(b4&&q3)=b5;have ao:=ya a;clear a))
 clear l0 l1 l2 l3
 obtain ⟨hB,hA,Q,hV,hE⟩:=Ca f.o S.o (by simp) (by simp) N.o HA.o i.o c.o h.o I.o
 clear f S c i h I R A V HA N U
 have f:=ya hB;have HA:=ya hA;have N:=ya Q;have U:=C
 have S:Hid (VE F [w.heap.size,w.heap.size+2,B.heap.size] bi [j,y,c2,M,D] [aa,ac,e2,e3,e4]):=ya (by
  obtain ⟨v0,Z,X,v3,v4,_⟩:=hV
  exact ⟨v0,hE,X,v3,v4,trivial⟩)
 clear hB hA Q hV hE
 have R:Hid (iV l::(.string E::(Ad (Rf.mk d.name (Aj t.farms d))++(Ad dr++(iV G::(j++(y++(c2++(M++(D)))))))))=(iV l::(.string E::(Ad (Rf.mk d.name (Aj t.farms d))++(Ad dr++(iV G::(j++(y)))))))++((c2)++(M++(D)))):=ya (by first|rfl|simp[yg])
 have A:=ya (f.o.part R.o (off:=19) (by simp[A9,s.o,C.o]))
 obtain ⟨l0,l1,l2,l3⟩:=f.o.scope HS.o.cells
 obtain ⟨v0,Z,X,v3,v4,_⟩:=S.o
 have V:=ya (BD (F:=FL F [w.heap.size,w.heap.size+2,B.heap.size]) (HS.o.lets.up f.o.below) X (Br HF.o f.o (by have h1:=f.o.size;have h2:=(yd.1 HA.o).1;intro k hk;simp at hk;omega)))
 generalize hq:Dp t.lets e2=q4 at V
 generalize hm:BR t.lets e2=m4 at V
 have bq:=ya hq;have cm:=ya hm
 clear hq hm v0 Z X v3 v4
 go_upto_region 18 with (first
  |(refine yf rfl 26 _ rfl w.heap.size 19 rfl c2 _ A.o qF rfl (AE af.o) ?_)
  |(go_at_call 87;refine V.o.mono ?_;rintro e cn ⟨K,ad,rfl,u,P,H⟩;have c:=ya u;have bz:=ya P;have i:=ya H;have O:=ya u.len;clear u P H)
  |(refine A2 rfl 26 _ _ rfl (B.heap.size) rfl K rfl (Bl i.o HA.o) (by rw[yp,U.o,c.o.len]) (AE c.o.len) (A8 c.o) ?_;intro c5 L;have h:=ya L;clear L)
  |(refine yf rfl 26 _ rfl (B.heap.size) 0 rfl K _ (A6 h.o.row) qF rfl (AE c.o.len) ?_)
  |(refine A7 rfl 26 _ _ rfl w.heap.size 19 rfl K rfl (p:=(iV l::(.string E::(Ad (Rf.mk d.name (Aj t.farms d))++(Ad dr++(iV G::(j++(y)))))))) (m:=(c2)) (q:=(M++(D))) (t:=68) (Di f.o i.o N.o h.o R.o) (by simp[A9,s.o,C.o]) (by rw[af.o,O.o]) (AE c.o.len) (A8 c.o) ?_;intro bu J;have I:Hid (AB c5 bu w.heap.size (iV l::(.string E::(Ad (Rf.mk d.name (Aj t.farms d))++(Ad dr++(iV G::(j++(y++(K++(M++(D)))))))))) 68):=ya (by simpa[yg] using J);clear J)
  |(refine Ae b5 rfl _ rfl rfl ?_)
  |(refine Ak (g:=b5) rfl _ _ _ rfl rfl (.bool (b5&&q4)) (by cases b5<;>rfl) ?_;generalize a:(b5&&q4)=b6;have an:=ya a;clear a)
  |(refine Ab (g:=b5) z7 rfl ?_;simp only[CW,Aa])
  |(refine Ab (g:=b5) (Av b5) rfl ?_;simp only[CW,Aa])
  |(rw[AD b5 (q4)];generalize a:(b5&&q4)=b6;have an:=ya a;clear a))
 clear l0 l1 l2 l3
 obtain ⟨hB,hA,Q,hV,hE⟩:=Ca f.o S.o (by simp) (by simp) N.o HA.o i.o c.o h.o I.o
 clear f S c i h I R A V HA N U
 have f:=ya hB;have HA:=ya hA;have N:=ya Q;have U:=O
 have S:Hid (VE F [w.heap.size,w.heap.size+2,B.heap.size] bu [j,y,K,M,D] [aa,ac,ad,e3,e4]):=ya (by
  obtain ⟨v0,Z,X,v3,v4,_⟩:=hV
  exact ⟨v0,Z,hE,v3,v4,trivial⟩)
 clear hB hA Q hV hE
 have R:Hid (iV l::(.string E::(Ad (Rf.mk d.name (Aj t.farms d))++(Ad dr++(iV G::(j++(y++(K++(M++(D)))))))))=(iV l::(.string E::(Ad (Rf.mk d.name (Aj t.farms d))++(Ad dr++(iV G::(j++(y++(K))))))))++((M)++(D))):=ya (by first|rfl|simp[yg])
 have A:=ya (f.o.part R.o (off:=25) (by simp[A9,s.o,C.o,O.o]))
 obtain ⟨l0,l1,l2,l3⟩:=f.o.scope HS.o.cells
 obtain ⟨v0,Z,X,v3,v4,_⟩:=S.o
 have V:=ya (BD (F:=FL F [w.heap.size,w.heap.size+2,B.heap.size]) (HS.o.lets.up f.o.below) v3 (Br HF.o f.o (by have h1:=f.o.size;have h2:=(yd.1 HA.o).1;intro k hk;simp at hk;omega)))
 generalize hq:Dp t.lets e3=q5 at V
 generalize hm:BR t.lets e3=m5 at V
 have bj:=ya hq;have c6:=ya hm
 clear hq hm v0 Z X v3 v4
 go_upto_region 21 with (first
  |(refine yf rfl 26 _ rfl w.heap.size 25 rfl M _ A.o qF rfl (AE aj.o) ?_)
  |(go_at_call 87;refine V.o.mono ?_;rintro e co ⟨T,ax,rfl,u,P,H⟩;have c:=ya u;have ce:=ya P;have i:=ya H;have W:=ya u.len;clear u P H)
  |(refine A2 rfl 26 _ _ rfl (B.heap.size) rfl T rfl (Bl i.o HA.o) (by rw[yp,U.o,c.o.len]) (AE c.o.len) (A8 c.o) ?_;intro cj L;have h:=ya L;clear L)
  |(refine yf rfl 26 _ rfl (B.heap.size) 0 rfl T _ (A6 h.o.row) qF rfl (AE c.o.len) ?_)
  |(refine A7 rfl 26 _ _ rfl w.heap.size 25 rfl T rfl (p:=(iV l::(.string E::(Ad (Rf.mk d.name (Aj t.farms d))++(Ad dr++(iV G::(j++(y++(K))))))))) (m:=(M)) (q:=(D)) (t:=68) (Di f.o i.o N.o h.o R.o) (by simp[A9,s.o,C.o,O.o]) (by rw[aj.o,W.o]) (AE c.o.len) (A8 c.o) ?_;intro bp J;have I:Hid (AB cj bp w.heap.size (iV l::(.string E::(Ad (Rf.mk d.name (Aj t.farms d))++(Ad dr++(iV G::(j++(y++(K++(T++(D)))))))))) 68):=ya (by simpa[yg] using J);clear J)
  |(refine Ae b6 rfl _ rfl rfl ?_)
  |(refine Ak (g:=b6) rfl _ _ _ rfl rfl (.bool (b6&&q5)) (by cases b6<;>rfl) ?_;generalize a:(b6&&q5)=b7;have ah:=ya a;clear a)
  |(refine Ab (g:=b6) z7 rfl ?_;simp only[CW,Aa])
  |(refine Ab (g:=b6) (Av b6) rfl ?_;simp only[CW,Aa])
  |(rw[AD b6 (q5)];generalize a:(b6&&q5)=b7;have ah:=ya a;clear a))
 clear l0 l1 l2 l3
 obtain ⟨hB,hA,Q,hV,hE⟩:=Ca f.o S.o (by simp) (by simp) N.o HA.o i.o c.o h.o I.o
 clear f S c i h I R A V HA N U
 have f:=ya hB;have HA:=ya hA;have N:=ya Q;have U:=W
 have S:Hid (VE F [w.heap.size,w.heap.size+2,B.heap.size] bp [j,y,K,T,D] [aa,ac,ad,ax,e4]):=ya (by
  obtain ⟨v0,Z,X,v3,v4,_⟩:=hV
  exact ⟨v0,Z,X,hE,v4,trivial⟩)
 clear hB hA Q hV hE
 have R:Hid (iV l::(.string E::(Ad (Rf.mk d.name (Aj t.farms d))++(Ad dr++(iV G::(j++(y++(K++(T++(D)))))))))=(iV l::(.string E::(Ad (Rf.mk d.name (Aj t.farms d))++(Ad dr++(iV G::(j++(y++(K++(T)))))))))++((D)++([]))):=ya (by first|rfl|simp[yg])
 have A:=ya (f.o.part R.o (off:=31) (by simp[A9,s.o,C.o,O.o,W.o]))
 obtain ⟨l0,l1,l2,l3⟩:=f.o.scope HS.o.cells
 obtain ⟨v0,Z,X,v3,v4,_⟩:=S.o
 have V:=ya (BD (F:=FL F [w.heap.size,w.heap.size+2,B.heap.size]) (HS.o.lets.up f.o.below) v4 (Br HF.o f.o (by have h1:=f.o.size;have h2:=(yd.1 HA.o).1;intro k hk;simp at hk;omega)))
 generalize hq:Dp t.lets e4=q6 at V
 generalize hm:BR t.lets e4=m6 at V
 have bm:=ya hq;have c9:=ya hm
 clear hq hm v0 Z X v3 v4
 go_upto_region 23 with (first
  |(refine yf rfl 26 _ rfl w.heap.size 31 rfl D _ A.o qF rfl (AE ak.o) ?_)
  |(go_at_call 87;refine V.o.mono ?_;rintro e cp ⟨a8,bs,rfl,u,P,H⟩;have c:=ya u;have cg:=ya P;have i:=ya H;have a7:=ya u.len;clear u P H)
  |(refine A2 rfl 26 _ _ rfl (B.heap.size) rfl a8 rfl (Bl i.o HA.o) (by rw[yp,U.o,c.o.len]) (AE c.o.len) (A8 c.o) ?_;intro bw L;have h:=ya L;clear L)
  |(refine yf rfl 26 _ rfl (B.heap.size) 0 rfl a8 _ (A6 h.o.row) qF rfl (AE c.o.len) ?_)
  |(refine A7 rfl 26 _ _ rfl w.heap.size 31 rfl a8 rfl (p:=(iV l::(.string E::(Ad (Rf.mk d.name (Aj t.farms d))++(Ad dr++(iV G::(j++(y++(K++(T)))))))))) (m:=(D)) (q:=([])) (t:=68) (Di f.o i.o N.o h.o R.o) (by simp[A9,s.o,C.o,O.o,W.o]) (by rw[ak.o,a7.o]) (AE c.o.len) (A8 c.o) ?_;intro bt J;have I:Hid (AB bw bt w.heap.size (iV l::(.string E::(Ad (Rf.mk d.name (Aj t.farms d))++(Ad dr++(iV G::(j++(y++(K++(T++(a8)))))))))) 68):=ya (by simpa[yg] using J);clear J)
 )
 clear l0 l1 l2 l3
 obtain ⟨hB,hA,Q,hV,hE⟩:=Ca f.o S.o (by simp) (by simp) N.o HA.o i.o c.o h.o I.o
 clear f S c i h I R A V HA N U
 have f:=ya hB;have HA:=ya hA;have N:=ya Q;have U:=a7
 have S:Hid (VE F [w.heap.size,w.heap.size+2,B.heap.size] bt [j,y,K,T,a8] [aa,ac,ad,ax,bs]):=ya (by
  obtain ⟨v0,Z,X,v3,v4,_⟩:=hV
  exact ⟨v0,Z,X,v3,hE,trivial⟩)
 clear hB hA Q hV hE
 obtain ⟨zr,bk,bh⟩:=f.o.r
 have HZ:=ya bk;have ci:=ya bh
 clear bk bh
 obtain ⟨row,a6⟩:∃r:LV,r=iV l::(.string E::(Ad (Rf.mk d.name (Aj t.farms d))++(Ad dr++(iV G::(j++(y++(K++(T++(a8))))))))):=⟨_,rfl⟩
 rw[<-a6] at f
 have HN:Hid (row.length=37):=ya (by rw[a6];exact (by simp[A9,s.o,C.o,O.o,W.o,a7.o]))
 have bv:Hid (∀v∈row,v.oneCell'=true):=ya (by
  obtain ⟨v0,Z,X,v3,v4,_⟩:=S.o
  rw[a6]
  exact (An rfl (An rfl (Ai (AO _) (Ai (AO _) (An rfl (Ai (A8 v0) (Ai (A8 Z) (Ai (A8 X) (Ai (A8 v3) (A8 v4)))))))))))
 have bo:=ya a6
 clear a6
 go_wp2_with (first
  |(refine yf rfl 68 _ rfl w.heap.size 0 rfl row _ (A6 f.o.x) qZ rfl (AX (n:=37) (by kernel_rfl) HN.o) ?_)
  |(refine A2 rfl 68 _ _ rfl (w.heap.size+2) rfl row rfl ci.o (by rw[yp,HZ.o,HN.o]) (AX (n:=37) (by kernel_rfl) HN.o) bv.o ?_;intro w9 be;have az:=ya be;clear be)
  |(refine Ae b7 rfl _ rfl rfl ?_)
  |(refine Ak (g:=b7) rfl _ _ _ rfl rfl (.bool (b7&&q6)) (by cases b7<;>rfl) ?_;generalize a:(b7&&q6)=b8;have am:=ya a;clear a)
  |(refine Ab (g:=b7) z7 rfl ?_;simp only[CW,Aa])
  |(refine Ab (g:=b7) (Av b7) rfl ?_;simp only[CW,Aa])
  |(rw[AD b7 (q6)];generalize a:(b7&&q6)=b8;have am:=ya a;clear a))
 refine At rfl rfl az.o.row qZ rfl (AX (n:=37) (by kernel_rfl) HN.o) ?_
 obtain ⟨v0,Z,X,v3,v4,_⟩:=FI S.o (by simp) az.o
 refine ⟨row,⟨l,E,⟨d.name,Aj t.farms d⟩,dr,G,aa,ac,ad,ax,bs⟩,BH rfl (yz Value.bool (by simp only[BA,yu HK.o,b9.o,bn.o,bd.o,bq.o,bj.o,bm.o,ag.o,al.o,aq.o,ae.o,ao.o,an.o,ah.o,am.o])),⟨h1,h2,h3,j,y,K,T,a8,bo.o,v0,Z,X,v3,v4⟩,?_,az.o.below f.o.below (by omega)⟩
 intro hq
 simp only[BA,yu HK.o,b9.o,bn.o,bd.o,bq.o,bj.o,bm.o,ym] at hq
 obtain ⟨⟨⟨⟨⟨⟨⟨⟨g1,ga⟩,gb⟩,g0⟩,k0⟩,k1⟩,k2⟩,k3⟩,k4⟩:=hq
 simp only[Bg,H6,c8.o k0,cb.o,cf.o k1,ch.o,bz.o k2,cm.o,ce.o k3,c6.o,cg.o k4,c9.o,yu HK.o]
theorem Rp{l K:Int}{J:ByteArray}{d dr:Rf}{e0 e1 e2 e3 e4:Ex}{c0 c1 c2 M G:LV}{F:NP}{w:World}{ls:LV}{a0 a1 a2 a3:AF}{t:Tb}(hk:¬ l=1)(h1:J.size<=maxLen)(h2:d.name.size<=maxLen)(h3:dr.name.size<=maxLen)(aw:Bh (GF F w) w e0 c0)(av:Bh (GF F w) w e1 c1)(u:Bh (GF F w) w e2 c2)(au:Bh (GF F w) w e3 M)(az:Bh (GF F w) w e4 G)(hs:MN w ls a0 a1 a2 a3 t)(hF:∀b,F b->b < w.heap.size):
  Calls Try.prog 60 #[.agg (.int .i64 l::(.string J::(Ad d++(Ad dr++(.int .i64 K::(c0++(c1++(c2++(M++G))))))))).toArray,.agg ls.toArray] w (ES CQ F w (BA t ⟨l,J,d,dr,K,e0,e1,e2,e3,e4⟩) (Bg t ⟨l,J,d,dr,K,e0,e1,e2,e3,e4⟩)):=by
 have HS:=ya hs
 have HF:=ya hF
 have HK:=ya hk
 have cd:(l==1)=false:=by simpa using hk
 clear hs hF hk
 go_enter Try.func60,Try.ntmps60
 go_upto_region 1 with (first|(refine AR rfl 68 _ rfl (iV l::(.string J::(Ad d++(Ad dr++(iV K::(c0++(c1++(c2++(M++(G)))))))))).toArray rfl ?_)|(refine AR rfl 109 _ rfl ls.toArray rfl ?_))
 obtain ⟨w1,bb⟩:∃z:World,z=((w.alloc (.cells (iV l::(.string J::(Ad d++(Ad dr++(iV K::(c0++(c1++(c2++(M++(G)))))))))).toArray 68)).alloc (.cells ls.toArray 109)).alloc (.cells jc 68):=⟨_,rfl⟩
 rw[<-bb]
 have h:=ya (FF (n:=37) (row:=iV l::(.string J::(Ad d++(Ad dr++(iV K::(c0++(c1++(c2++(M++(G)))))))))) bb rfl rfl)
 clear bb
 have R:Hid (VE F [w.heap.size,w.heap.size+2] w1 [c0,c1,c2,M,G] [e0,e1,e2,e3,e4]):=ya (FH ⟨aw,av,u,au,az,trivial⟩ h.o.below (by intro k hk;simp at hk;omega))
 have ar:=ya (aw).len
 have ap:=ya (av).len
 have af:=ya (u).len
 have aj:=ya (au).len
 have ak:=ya (az).len
 clear aw av u au az
 have S:Hid (iV l::(.string J::(Ad d++(Ad dr++(iV K::(c0++(c1++(c2++(M++(G)))))))))=(iV l::([.string J]))++((Ad d)++(Ad dr++(iV K::(c0++(c1++(c2++(M++(G))))))))):=ya (by first|rfl|simp[yg])
 have E:=ya (h.o.part S.o (off:=2) (by simp))
 obtain ⟨l0,l1,l2,l3⟩:=h.o.scope HS.o.cells
 generalize Z:Dh t.farms d=q1
 have ba:=ya Z
 clear Z
 go_upto_region 3 with (first
  |(refine yf rfl 23 _ rfl w.heap.size 2 rfl (Ad d) _ E.o qD rfl (CK _) ?_)
  |(go_at_call 88;refine (DN (HS.o.farms.up h.o.below) d).mono ?_;rintro e bd ⟨rfl,A⟩;have i:=ya A;clear A;rw[ba.o])
  |(refine A2 rfl 23 _ _ rfl bd.heap.size rfl (Ad (Rf.mk d.name (Aj t.farms d))) rfl (World.alloc_heap_new _ _) rfl (CK _) (AO _) ?_;intro cf D;have f:=ya D;clear D)
  |(refine yf rfl 23 _ rfl bd.heap.size 0 rfl (Ad (Rf.mk d.name (Aj t.farms d))) _ (A6 f.o.row) qD rfl (CK _) ?_)
  |(refine A7 rfl 23 _ _ rfl w.heap.size 2 rfl (Ad (Rf.mk d.name (Aj t.farms d))) rfl (p:=(iV l::([.string J]))) (m:=(Ad d)) (q:=(Ad dr++(iV K::(c0++(c1++(c2++(M++(G)))))))) (t:=68) (CN h.o i.o f.o S.o) (by simp) rfl (CK _) (AO _) ?_;intro cg C;have B:Hid (AB cf cg w.heap.size (iV l::(.string J::(Ad (Rf.mk d.name (Aj t.farms d))++(Ad dr++(iV K::(c0++(c1++(c2++(M++(G)))))))))) 68):=ya (by simpa[yg] using C);clear C)
 )
 clear l0 l1 l2 l3
 obtain ⟨hB,hV,_⟩:=Ov h.o R.o (by simp) i.o f.o B.o
 clear h R i f B S E
 have h:=ya hB;have R:=ya hV
 clear hB hV
 have ai:Hid (iV l::(.string J::(Ad (Rf.mk d.name (Aj t.farms d))++(Ad dr++(iV K::(c0++(c1++(c2++(M++(G)))))))))=([])++(([iV l])++(.string J::(Ad (Rf.mk d.name (Aj t.farms d))++(Ad dr++(iV K::(c0++(c1++(c2++(M++(G))))))))))):=ya (by first|rfl|simp[yg])
 have ab:=ya (h.o.part ai.o (off:=0) (by simp))
 have ck:=CL ab.o
 clear ai ab
 go_upto_region 4 with (first
  |(refine DX rfl q1 rfl rfl w.heap.size 0 (fun hg=>by subst hg;rfl) (by go_simp) ?_)
  |(refine Fs rfl q1 rfl rfl w.heap.size 0 (fun hg=>by subst hg;rfl) l (by go_simp) ?_)
  |(refine GQ rfl q1 rfl rfl l 1 (decide (l≥1)) (fun hg=>by subst hg;rfl) (fun hg=>by subst hg;rfl) (by go_simp) (by go_simp) ?_)
  |(refine Ae q1 rfl _ rfl rfl ?_)
  |(refine Ak (g:=q1) rfl _ _ _ rfl rfl (.bool (q1&&decide (l≥1))) (by cases q1<;>rfl) ?_;generalize a:(q1&&decide (l≥1))=b1;have ah:=ya a;clear a)
  |(refine Ab (g:=q1) z7 rfl ?_;simp only[CW,Aa])
  |(refine Ab (g:=q1) (Av q1) rfl ?_;simp only[CW,Aa])
  |(rw[AD q1 (decide (l≥1))];generalize a:(q1&&decide (l≥1))=b1;have ah:=ya a;clear a)
  |(refine DX rfl b1 rfl rfl w.heap.size 0 (fun hg=>by subst hg;rfl) (by go_simp) ?_)
  |(refine Fs rfl b1 rfl rfl w.heap.size 0 (fun hg=>by subst hg;rfl) l (by go_simp) ?_)
  |(refine GQ rfl b1 rfl rfl l 3 (decide (l<=3)) (fun hg=>by subst hg;rfl) (fun hg=>by subst hg;rfl) (by go_simp) (by go_simp) ?_)
  |(refine Ae b1 rfl _ rfl rfl ?_)
  |(refine Ak (g:=b1) rfl _ _ _ rfl rfl (.bool (b1&&decide (l<=3))) (by cases b1<;>rfl) ?_;generalize a:(b1&&decide (l<=3))=b2;have al:=ya a;clear a)
  |(refine Ab (g:=b1) z7 rfl ?_;simp only[CW,Aa])
  |(refine Ab (g:=b1) (Av b1) rfl ?_;simp only[CW,Aa])
  |(rw[AD b1 (decide (l<=3))];generalize a:(b1&&decide (l<=3))=b2;have al:=ya a;clear a))
 go_upto_region 6 with fail
 clear ck
 have S:Hid (iV l::(.string J::(Ad (Rf.mk d.name (Aj t.farms d))++(Ad dr++(iV K::(c0++(c1++(c2++(M++(G)))))))))=(iV l::(.string J::(Ad (Rf.mk d.name (Aj t.farms d)))))++((Ad dr)++(iV K::(c0++(c1++(c2++(M++(G)))))))):=ya (by first|rfl|simp[yg])
 have E:=ya (h.o.part S.o (off:=4) (by simp[A9]))
 obtain ⟨l0,l1,l2,l3⟩:=h.o.scope HS.o.cells
 generalize Z:Dh t.reaches dr=q2
 have ay:=ya Z
 clear Z
 go_upto_region 9 with (first
  |(refine yf rfl 23 _ rfl w.heap.size 4 rfl (Ad dr) _ E.o qD rfl (CK _) ?_)
  |(go_at_call 88;refine (DN (HS.o.reaches.up h.o.below) dr).mono ?_;rintro e bi ⟨rfl,A⟩;have i:=ya A;clear A;rw[ay.o])
  |(refine A2 rfl 23 _ _ rfl bi.heap.size rfl (Ad (Rf.mk dr.name (Aj t.reaches dr))) rfl (World.alloc_heap_new _ _) rfl (CK _) (AO _) ?_;intro cp D;have f:=ya D;clear D)
  |(refine yf rfl 23 _ rfl bi.heap.size 0 rfl (Ad (Rf.mk dr.name (Aj t.reaches dr))) _ (A6 f.o.row) qD rfl (CK _) ?_)
  |(refine A7 rfl 23 _ _ rfl w.heap.size 4 rfl (Ad (Rf.mk dr.name (Aj t.reaches dr))) rfl (p:=(iV l::(.string J::(Ad (Rf.mk d.name (Aj t.farms d)))))) (m:=(Ad dr)) (q:=(iV K::(c0++(c1++(c2++(M++(G))))))) (t:=68) (CN h.o i.o f.o S.o) (by simp[A9]) rfl (CK _) (AO _) ?_;intro c8 C;have B:Hid (AB cp c8 w.heap.size (iV l::(.string J::(Ad (Rf.mk d.name (Aj t.farms d))++(Ad (Rf.mk dr.name (Aj t.reaches dr))++(iV K::(c0++(c1++(c2++(M++(G)))))))))) 68):=ya (by simpa[yg] using C);clear C)
  |(refine Ae b2 rfl _ rfl rfl ?_)
  |(refine Ak (g:=b2) rfl _ _ _ rfl rfl (.bool (b2&&q2)) (by cases b2<;>rfl) ?_;generalize a:(b2&&q2)=b3;have aq:=ya a;clear a)
  |(refine Ab (g:=b2) z7 rfl ?_;simp only[CW,Aa])
  |(refine Ab (g:=b2) (Av b2) rfl ?_;simp only[CW,Aa])
  |(rw[AD b2 (q2)];generalize a:(b2&&q2)=b3;have aq:=ya a;clear a))
 clear l0 l1 l2 l3
 obtain ⟨hB,hV,_⟩:=Ov h.o R.o (by simp) i.o f.o B.o
 clear h R i f B S E
 have h:=ya hB;have R:=ya hV
 clear hB hV cd
 have S:Hid (iV l::(.string J::(Ad (Rf.mk d.name (Aj t.farms d))++(Ad (Rf.mk dr.name (Aj t.reaches dr))++(iV K::(c0++(c1++(c2++(M++(G)))))))))=(iV l::(.string J::(Ad (Rf.mk d.name (Aj t.farms d))++(Ad (Rf.mk dr.name (Aj t.reaches dr))++([iV K])))))++((c0)++(c1++(c2++(M++(G)))))):=ya (by first|rfl|simp[yg])
 have E:=ya (h.o.part S.o (off:=7) (by simp[A9]))
 obtain ⟨l0,l1,l2,l3⟩:=h.o.scope HS.o.cells
 obtain ⟨v0,Y,X,v3,v4,_⟩:=R.o
 have V:=ya (BD (F:=FL F [w.heap.size,w.heap.size+2]) (HS.o.lets.up h.o.below) v0 (Br HF.o h.o (by have h1:=h.o.size;intro k hk;simp at hk;omega)))
 generalize Z:Dp t.lets e0=q3 at V
 generalize hm:BR t.lets e0=m3 at V
 have bg:=ya Z;have cm:=ya hm
 clear Z hm v0 Y X v3 v4
 go_upto_region 12 with (first
  |(refine yf rfl 26 _ rfl w.heap.size 7 rfl c0 _ E.o qF rfl (AE ar.o) ?_)
  |(go_at_call 87;refine V.o.mono ?_;rintro e H ⟨j,aa,rfl,u,P,A⟩;have c:=ya u;have ci:=ya P;have i:=ya A;have s:=ya u.len;clear u P A)
  |(refine A2 rfl 26 _ _ rfl (H.heap.size) rfl j rfl (World.alloc_heap_new _ _) (by rw[c.o.len];rfl) (AE c.o.len) (A8 c.o) ?_;intro cb D;have f:=ya D;clear D)
  |(refine yf rfl 26 _ rfl (H.heap.size) 0 rfl j _ (A6 f.o.row) qF rfl (AE c.o.len) ?_)
  |(refine A7 rfl 26 _ _ rfl w.heap.size 7 rfl j rfl (p:=(iV l::(.string J::(Ad (Rf.mk d.name (Aj t.farms d))++(Ad (Rf.mk dr.name (Aj t.reaches dr))++([iV K])))))) (m:=(c0)) (q:=(c1++(c2++(M++(G))))) (t:=68) (CN h.o i.o f.o S.o) (by simp[A9]) (by rw[ar.o,s.o]) (AE c.o.len) (A8 c.o) ?_;intro bm C;have B:Hid (AB cb bm w.heap.size (iV l::(.string J::(Ad (Rf.mk d.name (Aj t.farms d))++(Ad (Rf.mk dr.name (Aj t.reaches dr))++(iV K::(j++(c1++(c2++(M++(G)))))))))) 68):=ya (by simpa[yg] using C);clear C)
  |(refine Ae b3 rfl _ rfl rfl ?_)
  |(refine Ak (g:=b3) rfl _ _ _ rfl rfl (.bool (b3&&q3)) (by cases b3<;>rfl) ?_;generalize a:(b3&&q3)=b4;have ae:=ya a;clear a)
  |(refine Ab (g:=b3) z7 rfl ?_;simp only[CW,Aa])
  |(refine Ab (g:=b3) (Av b3) rfl ?_;simp only[CW,Aa])
  |(rw[AD b3 (q3)];generalize a:(b3&&q3)=b4;have ae:=ya a;clear a))
 clear l0 l1 l2 l3
 obtain ⟨hB,hA,Q,hV,hE⟩:=EB h.o R.o (by simp) i.o c.o rfl f.o B.o
 clear h R c i f B S E V
 have h:=ya hB;have HA:=ya hA;have N:=ya Q;have U:=s
 have R:Hid (VE F [w.heap.size,w.heap.size+2,H.heap.size] bm [j,c1,c2,M,G] [aa,e1,e2,e3,e4]):=ya (by
  obtain ⟨v0,Y,X,v3,v4,_⟩:=hV
  exact ⟨hE,Y,X,v3,v4,trivial⟩)
 clear hB hA Q hV hE
 have S:Hid (iV l::(.string J::(Ad (Rf.mk d.name (Aj t.farms d))++(Ad (Rf.mk dr.name (Aj t.reaches dr))++(iV K::(j++(c1++(c2++(M++(G)))))))))=(iV l::(.string J::(Ad (Rf.mk d.name (Aj t.farms d))++(Ad (Rf.mk dr.name (Aj t.reaches dr))++(iV K::(j))))))++((c1)++(c2++(M++(G))))):=ya (by first|rfl|simp[yg])
 have E:=ya (h.o.part S.o (off:=13) (by simp[A9,s.o]))
 obtain ⟨l0,l1,l2,l3⟩:=h.o.scope HS.o.cells
 obtain ⟨v0,Y,X,v3,v4,_⟩:=R.o
 have V:=ya (BD (F:=FL F [w.heap.size,w.heap.size+2,H.heap.size]) (HS.o.lets.up h.o.below) Y (Br HF.o h.o (by have h1:=h.o.size;have h2:=(yd.1 HA.o).1;intro k hk;simp at hk;omega)))
 generalize Z:Dp t.lets e1=q4 at V
 generalize hm:BR t.lets e1=m4 at V
 have bt:=ya Z;have cq:=ya hm
 clear Z hm v0 Y X v3 v4
 go_upto_region 15 with (first
  |(refine yf rfl 26 _ rfl w.heap.size 13 rfl c1 _ E.o qF rfl (AE ap.o) ?_)
  |(go_at_call 87;refine V.o.mono ?_;rintro e cr ⟨y,ac,rfl,u,P,A⟩;have c:=ya u;have c6:=ya P;have i:=ya A;have I:=ya u.len;clear u P A)
  |(refine A2 rfl 26 _ _ rfl (H.heap.size) rfl y rfl (Bl i.o HA.o) (by rw[yp,U.o,c.o.len]) (AE c.o.len) (A8 c.o) ?_;intro c7 D;have f:=ya D;clear D)
  |(refine yf rfl 26 _ rfl (H.heap.size) 0 rfl y _ (A6 f.o.row) qF rfl (AE c.o.len) ?_)
  |(refine A7 rfl 26 _ _ rfl w.heap.size 13 rfl y rfl (p:=(iV l::(.string J::(Ad (Rf.mk d.name (Aj t.farms d))++(Ad (Rf.mk dr.name (Aj t.reaches dr))++(iV K::(j))))))) (m:=(c1)) (q:=(c2++(M++(G)))) (t:=68) (Di h.o i.o N.o f.o S.o) (by simp[A9,s.o]) (by rw[ap.o,I.o]) (AE c.o.len) (A8 c.o) ?_;intro bw C;have B:Hid (AB c7 bw w.heap.size (iV l::(.string J::(Ad (Rf.mk d.name (Aj t.farms d))++(Ad (Rf.mk dr.name (Aj t.reaches dr))++(iV K::(j++(y++(c2++(M++(G)))))))))) 68):=ya (by simpa[yg] using C);clear C)
  |(refine Ae b4 rfl _ rfl rfl ?_)
  |(refine Ak (g:=b4) rfl _ _ _ rfl rfl (.bool (b4&&q4)) (by cases b4<;>rfl) ?_;generalize a:(b4&&q4)=b5;have ao:=ya a;clear a)
  |(refine Ab (g:=b4) z7 rfl ?_;simp only[CW,Aa])
  |(refine Ab (g:=b4) (Av b4) rfl ?_;simp only[CW,Aa])
  |(rw[AD b4 (q4)];generalize a:(b4&&q4)=b5;have ao:=ya a;clear a))
 clear l0 l1 l2 l3
 obtain ⟨hB,hA,Q,hV,hE⟩:=Ca h.o R.o (by simp) (by simp) N.o HA.o i.o c.o f.o B.o
 clear h R c i f B S E V HA N U
 have h:=ya hB;have HA:=ya hA;have N:=ya Q;have U:=I
 have R:Hid (VE F [w.heap.size,w.heap.size+2,H.heap.size] bw [j,y,c2,M,G] [aa,ac,e2,e3,e4]):=ya (by
  obtain ⟨v0,Y,X,v3,v4,_⟩:=hV
  exact ⟨v0,hE,X,v3,v4,trivial⟩)
 clear hB hA Q hV hE
 have S:Hid (iV l::(.string J::(Ad (Rf.mk d.name (Aj t.farms d))++(Ad (Rf.mk dr.name (Aj t.reaches dr))++(iV K::(j++(y++(c2++(M++(G)))))))))=(iV l::(.string J::(Ad (Rf.mk d.name (Aj t.farms d))++(Ad (Rf.mk dr.name (Aj t.reaches dr))++(iV K::(j++(y)))))))++((c2)++(M++(G)))):=ya (by first|rfl|simp[yg])
 have E:=ya (h.o.part S.o (off:=19) (by simp[A9,s.o,I.o]))
 obtain ⟨l0,l1,l2,l3⟩:=h.o.scope HS.o.cells
 obtain ⟨v0,Y,X,v3,v4,_⟩:=R.o
 have V:=ya (BD (F:=FL F [w.heap.size,w.heap.size+2,H.heap.size]) (HS.o.lets.up h.o.below) X (Br HF.o h.o (by have h1:=h.o.size;have h2:=(yd.1 HA.o).1;intro k hk;simp at hk;omega)))
 generalize Z:Dp t.lets e2=q5 at V
 generalize hm:BR t.lets e2=m5 at V
 have bn:=ya Z;have c9:=ya hm
 clear Z hm v0 Y X v3 v4
 go_upto_region 18 with (first
  |(refine yf rfl 26 _ rfl w.heap.size 19 rfl c2 _ E.o qF rfl (AE af.o) ?_)
  |(go_at_call 87;refine V.o.mono ?_;rintro e ct ⟨L,ad,rfl,u,P,A⟩;have c:=ya u;have ch:=ya P;have i:=ya A;have O:=ya u.len;clear u P A)
  |(refine A2 rfl 26 _ _ rfl (H.heap.size) rfl L rfl (Bl i.o HA.o) (by rw[yp,U.o,c.o.len]) (AE c.o.len) (A8 c.o) ?_;intro co D;have f:=ya D;clear D)
  |(refine yf rfl 26 _ rfl (H.heap.size) 0 rfl L _ (A6 f.o.row) qF rfl (AE c.o.len) ?_)
  |(refine A7 rfl 26 _ _ rfl w.heap.size 19 rfl L rfl (p:=(iV l::(.string J::(Ad (Rf.mk d.name (Aj t.farms d))++(Ad (Rf.mk dr.name (Aj t.reaches dr))++(iV K::(j++(y)))))))) (m:=(c2)) (q:=(M++(G))) (t:=68) (Di h.o i.o N.o f.o S.o) (by simp[A9,s.o,I.o]) (by rw[af.o,O.o]) (AE c.o.len) (A8 c.o) ?_;intro bs C;have B:Hid (AB co bs w.heap.size (iV l::(.string J::(Ad (Rf.mk d.name (Aj t.farms d))++(Ad (Rf.mk dr.name (Aj t.reaches dr))++(iV K::(j++(y++(L++(M++(G)))))))))) 68):=ya (by simpa[yg] using C);clear C)
  |(refine Ae b5 rfl _ rfl rfl ?_)
  |(refine Ak (g:=b5) rfl _ _ _ rfl rfl (.bool (b5&&q5)) (by cases b5<;>rfl) ?_;generalize a:(b5&&q5)=b6;have an:=ya a;clear a)
  |(refine Ab (g:=b5) z7 rfl ?_;simp only[CW,Aa])
  |(refine Ab (g:=b5) (Av b5) rfl ?_;simp only[CW,Aa])
  |(rw[AD b5 (q5)];generalize a:(b5&&q5)=b6;have an:=ya a;clear a))
 clear l0 l1 l2 l3
 obtain ⟨hB,hA,Q,hV,hE⟩:=Ca h.o R.o (by simp) (by simp) N.o HA.o i.o c.o f.o B.o
 clear h R c i f B S E V HA N U
 have h:=ya hB;have HA:=ya hA;have N:=ya Q;have U:=O
 have R:Hid (VE F [w.heap.size,w.heap.size+2,H.heap.size] bs [j,y,L,M,G] [aa,ac,ad,e3,e4]):=ya (by
  obtain ⟨v0,Y,X,v3,v4,_⟩:=hV
  exact ⟨v0,Y,hE,v3,v4,trivial⟩)
 clear hB hA Q hV hE
 have S:Hid (iV l::(.string J::(Ad (Rf.mk d.name (Aj t.farms d))++(Ad (Rf.mk dr.name (Aj t.reaches dr))++(iV K::(j++(y++(L++(M++(G)))))))))=(iV l::(.string J::(Ad (Rf.mk d.name (Aj t.farms d))++(Ad (Rf.mk dr.name (Aj t.reaches dr))++(iV K::(j++(y++(L))))))))++((M)++(G))):=ya (by first|rfl|simp[yg])
 have E:=ya (h.o.part S.o (off:=25) (by simp[A9,s.o,I.o,O.o]))
 obtain ⟨l0,l1,l2,l3⟩:=h.o.scope HS.o.cells
 obtain ⟨v0,Y,X,v3,v4,_⟩:=R.o
 have V:=ya (BD (F:=FL F [w.heap.size,w.heap.size+2,H.heap.size]) (HS.o.lets.up h.o.below) v3 (Br HF.o h.o (by have h1:=h.o.size;have h2:=(yd.1 HA.o).1;intro k hk;simp at hk;omega)))
 generalize Z:Dp t.lets e3=q6 at V
 generalize hm:BR t.lets e3=m6 at V
 have bp:=ya Z;have cc:=ya hm
 clear Z hm v0 Y X v3 v4
 go_upto_region 21 with (first
  |(refine yf rfl 26 _ rfl w.heap.size 25 rfl M _ E.o qF rfl (AE aj.o) ?_)
  |(go_at_call 87;refine V.o.mono ?_;rintro e cu ⟨T,ax,rfl,u,P,A⟩;have c:=ya u;have cj:=ya P;have i:=ya A;have W:=ya u.len;clear u P A)
  |(refine A2 rfl 26 _ _ rfl (H.heap.size) rfl T rfl (Bl i.o HA.o) (by rw[yp,U.o,c.o.len]) (AE c.o.len) (A8 c.o) ?_;intro c5 D;have f:=ya D;clear D)
  |(refine yf rfl 26 _ rfl (H.heap.size) 0 rfl T _ (A6 f.o.row) qF rfl (AE c.o.len) ?_)
  |(refine A7 rfl 26 _ _ rfl w.heap.size 25 rfl T rfl (p:=(iV l::(.string J::(Ad (Rf.mk d.name (Aj t.farms d))++(Ad (Rf.mk dr.name (Aj t.reaches dr))++(iV K::(j++(y++(L))))))))) (m:=(M)) (q:=(G)) (t:=68) (Di h.o i.o N.o f.o S.o) (by simp[A9,s.o,I.o,O.o]) (by rw[aj.o,W.o]) (AE c.o.len) (A8 c.o) ?_;intro bv C;have B:Hid (AB c5 bv w.heap.size (iV l::(.string J::(Ad (Rf.mk d.name (Aj t.farms d))++(Ad (Rf.mk dr.name (Aj t.reaches dr))++(iV K::(j++(y++(L++(T++(G)))))))))) 68):=ya (by simpa[yg] using C);clear C)
  |(refine Ae b6 rfl _ rfl rfl ?_)
  |(refine Ak (g:=b6) rfl _ _ _ rfl rfl (.bool (b6&&q6)) (by cases b6<;>rfl) ?_;generalize a:(b6&&q6)=b7;have ag:=ya a;clear a)
  |(refine Ab (g:=b6) z7 rfl ?_;simp only[CW,Aa])
  |(refine Ab (g:=b6) (Av b6) rfl ?_;simp only[CW,Aa])
  |(rw[AD b6 (q6)];generalize a:(b6&&q6)=b7;have ag:=ya a;clear a))
 clear l0 l1 l2 l3
 obtain ⟨hB,hA,Q,hV,hE⟩:=Ca h.o R.o (by simp) (by simp) N.o HA.o i.o c.o f.o B.o
 clear h R c i f B S E V HA N U
 have h:=ya hB;have HA:=ya hA;have N:=ya Q;have U:=W
 have R:Hid (VE F [w.heap.size,w.heap.size+2,H.heap.size] bv [j,y,L,T,G] [aa,ac,ad,ax,e4]):=ya (by
  obtain ⟨v0,Y,X,v3,v4,_⟩:=hV
  exact ⟨v0,Y,X,hE,v4,trivial⟩)
 clear hB hA Q hV hE
 have S:Hid (iV l::(.string J::(Ad (Rf.mk d.name (Aj t.farms d))++(Ad (Rf.mk dr.name (Aj t.reaches dr))++(iV K::(j++(y++(L++(T++(G)))))))))=(iV l::(.string J::(Ad (Rf.mk d.name (Aj t.farms d))++(Ad (Rf.mk dr.name (Aj t.reaches dr))++(iV K::(j++(y++(L++(T)))))))))++((G)++([]))):=ya (by first|rfl|simp[yg])
 have E:=ya (h.o.part S.o (off:=31) (by simp[A9,s.o,I.o,O.o,W.o]))
 obtain ⟨l0,l1,l2,l3⟩:=h.o.scope HS.o.cells
 obtain ⟨v0,Y,X,v3,v4,_⟩:=R.o
 have V:=ya (BD (F:=FL F [w.heap.size,w.heap.size+2,H.heap.size]) (HS.o.lets.up h.o.below) v4 (Br HF.o h.o (by have h1:=h.o.size;have h2:=(yd.1 HA.o).1;intro k hk;simp at hk;omega)))
 generalize Z:Dp t.lets e4=q7 at V
 generalize hm:BR t.lets e4=m7 at V
 have be:=ya Z;have cl:=ya hm
 clear Z hm v0 Y X v3 v4
 go_upto_region 23 with (first
  |(refine yf rfl 26 _ rfl w.heap.size 31 rfl G _ E.o qF rfl (AE ak.o) ?_)
  |(go_at_call 87;refine V.o.mono ?_;rintro e cv ⟨a8,bu,rfl,u,P,A⟩;have c:=ya u;have ce:=ya P;have i:=ya A;have a7:=ya u.len;clear u P A)
  |(refine A2 rfl 26 _ _ rfl (H.heap.size) rfl a8 rfl (Bl i.o HA.o) (by rw[yp,U.o,c.o.len]) (AE c.o.len) (A8 c.o) ?_;intro ca D;have f:=ya D;clear D)
  |(refine yf rfl 26 _ rfl (H.heap.size) 0 rfl a8 _ (A6 f.o.row) qF rfl (AE c.o.len) ?_)
  |(refine A7 rfl 26 _ _ rfl w.heap.size 31 rfl a8 rfl (p:=(iV l::(.string J::(Ad (Rf.mk d.name (Aj t.farms d))++(Ad (Rf.mk dr.name (Aj t.reaches dr))++(iV K::(j++(y++(L++(T)))))))))) (m:=(G)) (q:=([])) (t:=68) (Di h.o i.o N.o f.o S.o) (by simp[A9,s.o,I.o,O.o,W.o]) (by rw[ak.o,a7.o]) (AE c.o.len) (A8 c.o) ?_;intro bk C;have B:Hid (AB ca bk w.heap.size (iV l::(.string J::(Ad (Rf.mk d.name (Aj t.farms d))++(Ad (Rf.mk dr.name (Aj t.reaches dr))++(iV K::(j++(y++(L++(T++(a8)))))))))) 68):=ya (by simpa[yg] using C);clear C)
 )
 clear l0 l1 l2 l3
 obtain ⟨hB,hA,Q,hV,hE⟩:=Ca h.o R.o (by simp) (by simp) N.o HA.o i.o c.o f.o B.o
 clear h R c i f B S E V HA N U
 have h:=ya hB;have HA:=ya hA;have N:=ya Q;have U:=a7
 have R:Hid (VE F [w.heap.size,w.heap.size+2,H.heap.size] bk [j,y,L,T,a8] [aa,ac,ad,ax,bu]):=ya (by
  obtain ⟨v0,Y,X,v3,v4,_⟩:=hV
  exact ⟨v0,Y,X,v3,hE,trivial⟩)
 clear hB hA Q hV hE
 obtain ⟨zr,bo,bj⟩:=h.o.r
 have HZ:=ya bo;have cn:=ya bj
 clear bo bj
 obtain ⟨row,a6⟩:∃r:LV,r=iV l::(.string J::(Ad (Rf.mk d.name (Aj t.farms d))++(Ad (Rf.mk dr.name (Aj t.reaches dr))++(iV K::(j++(y++(L++(T++(a8))))))))):=⟨_,rfl⟩
 rw[<-a6] at h
 have HN:Hid (row.length=37):=ya (by rw[a6];exact (by simp[A9,s.o,I.o,O.o,W.o,a7.o]))
 have bz:Hid (∀v∈row,v.oneCell'=true):=ya (by
  obtain ⟨v0,Y,X,v3,v4,_⟩:=R.o
  rw[a6]
  exact (An rfl (An rfl (Ai (AO _) (Ai (AO _) (An rfl (Ai (A8 v0) (Ai (A8 Y) (Ai (A8 X) (Ai (A8 v3) (A8 v4)))))))))))
 have bq:=ya a6
 clear a6
 go_wp2_with (first
  |(refine yf rfl 68 _ rfl w.heap.size 0 rfl row _ (A6 h.o.x) qZ rfl (AX (n:=37) (by kernel_rfl) HN.o) ?_)
  |(refine A2 rfl 68 _ _ rfl (w.heap.size+2) rfl row rfl cn.o (by rw[yp,HZ.o,HN.o]) (AX (n:=37) (by kernel_rfl) HN.o) bz.o ?_;intro w9 bh;have b9:=ya bh;clear bh)
  |(refine Ae b7 rfl _ rfl rfl ?_)
  |(refine Ak (g:=b7) rfl _ _ _ rfl rfl (.bool (b7&&q7)) (by cases b7<;>rfl) ?_;generalize a:(b7&&q7)=b8;have am:=ya a;clear a)
  |(refine Ab (g:=b7) z7 rfl ?_;simp only[CW,Aa])
  |(refine Ab (g:=b7) (Av b7) rfl ?_;simp only[CW,Aa])
  |(rw[AD b7 (q7)];generalize a:(b7&&q7)=b8;have am:=ya a;clear a))
 refine At rfl rfl b9.o.row qZ rfl (AX (n:=37) (by kernel_rfl) HN.o) ?_
 obtain ⟨v0,Y,X,v3,v4,_⟩:=FI R.o (by simp) b9.o
 refine ⟨row,⟨l,J,⟨d.name,Aj t.farms d⟩,⟨dr.name,Aj t.reaches dr⟩,K,aa,ac,ad,ax,bu⟩,BH rfl (yz Value.bool (by simp only[BA,yq HK.o,ba.o,ay.o,bg.o,bt.o,bn.o,bp.o,be.o,ah.o,al.o,aq.o,ae.o,ao.o,an.o,ag.o,am.o])),⟨h1,h2,h3,j,y,L,T,a8,bq.o,v0,Y,X,v3,v4⟩,?_,b9.o.below h.o.below (by omega)⟩
 intro Z
 simp only[BA,yq HK.o,ba.o,ay.o,bg.o,bt.o,bn.o,bp.o,be.o,ym] at Z
 obtain ⟨⟨⟨⟨⟨⟨⟨⟨g1,ga⟩,gb⟩,g0⟩,k0⟩,k1⟩,k2⟩,k3⟩,k4⟩:=Z
 simp only[Bg,H6,ci.o k0,cm.o,c6.o k1,cq.o,ch.o k2,c9.o,cj.o k3,cc.o,ce.o k4,cl.o,yq HK.o]
theorem NM{d:AJ}{F:NP}{w:World}{cs ls:LV}{h0 h1 h2 h3:AF}{t:Tb}(j:CQ (GF F w) w cs d)(hs:MN w ls h0 h1 h2 h3 t)(i:∀b,F b->b < w.heap.size):
  Calls Try.prog 60 #[.agg cs.toArray,.agg ls.toArray] w (ES CQ F w (BA t d) (Bg t d)):=by
 obtain ⟨k,n,l,dr,m,e0,e1,e2,r,q⟩:=d
 obtain ⟨h1,h2,h3,c0,c1,c2,o,p,rfl,g,e,c,a,f⟩:=j
 by_cases h:k=1
 ·exact Ro h h1 h2 h3 g e c a f hs i
 ·exact Rp h h1 h2 h3 g e c a f hs i
end Go.Proofs.Ytghepahgkcigpaa
