/- The reference's rotation (printed by gen_yq.py). -/
import Derived.Test.YtghepahgkcigpaaQ0
import Derived.Test.YtghepahgkcigpaaQ11
set_option maxRecDepth 100000
set_option maxHeartbeats 32000000
set_option linter.unusedSimpArgs false
namespace Go.Proofs.Ytghepahgkcigpaa
open Go.RowKit
theorem Kd{d:AS}{F:NP}{w:World}{cs ls:LV}{h0 h1 h2 h3:AF}{t:Tb}(hv:N4 (GF F w) w cs d)(hs:MN w ls h0 h1 h2 h3 t)(hF:∀b,F b->b < w.heap.size)(bw:d.turns.length<=100000):
  Calls Try.prog 59 #[.agg cs.toArray,.agg ls.toArray] w (ES N4 F w (Du t d) (Cu t d)):=by
 obtain ⟨V,c,U,e0,e1,e2,ts⟩:=d
 obtain ⟨⟨Y,S,hc⟩,g1,g2,c0,c1,c2,rfl,bu,ad,K,ar,c9,bo⟩:=hv
 have d8:=ya bo
 have b4:=ya ar
 have bt:=ya bw
 have d1:Hid (S<=140737488355328):=ya (by have h:S=ts.length:=ar;have h':ts.length<=100000:=bw;omega)
 have HS:=ya hs
 have HF:=ya hF
 unfold AF.v
 simp only at d8 b4 bt ar ⊢
 clear hs hF bo ar c9 bw
 go_enter Try.func59,Try.ntmps59
 go_upto_region 1 with (first|(refine AR rfl 64 _ rfl (.string V::(Ad c++(iV U::(c0++(c1++(c2++([.slice Y S hc]))))))).toArray rfl ?_)|(refine AR rfl 109 _ rfl ls.toArray rfl ?_))
 obtain ⟨w1,ag⟩:∃z:World,z=((w.alloc (.cells (.string V::(Ad c++(iV U::(c0++(c1++(c2++([.slice Y S hc]))))))).toArray 64)).alloc (.cells ls.toArray 109)).alloc (.cells #[.string {data:=#[]},.string {data:=#[]},iV 0,iV 0,iV 0,iV 0,iV 0,.string {data:=#[]},iV 0,.slice none 0 0,iV 0,iV 0,iV 0,.string {data:=#[]},iV 0,.slice none 0 0,iV 0,iV 0,iV 0,.string {data:=#[]},iV 0,.slice none 0 0,.slice none 0 0] 64):=⟨_,rfl⟩
 rw[<-ag]
 have G:=ya (FF (n:=23) (row:=.string V::(Ad c++(iV U::(c0++(c1++(c2++([.slice Y S hc]))))))) ag rfl rfl)
 clear ag
 have HV:Hid (VE F [w.heap.size,w.heap.size+2] w1 [c0,c1,c2] [e0,e1,e2]):=ya (FH ⟨bu,ad,K,trivial⟩ G.o.below (by intro k P;simp at P;omega))
 have bp:=ya (bu).len
 have bk:=ya (ad).len
 have bb:=ya (K).len
 clear bu ad K
 have HP:Hid (.string V::(Ad c++(iV U::(c0++(c1++(c2++([.slice Y S hc]))))))=([.string V])++((Ad c)++(iV U::(c0++(c1++(c2++([.slice Y S hc]))))))):=ya (by first|rfl|simp[yg])
 have a1:=ya (G.o.part HP.o (off:=1) (by simp))
 obtain ⟨l0,l1,l2,l3⟩:=G.o.scope HS.o.cells
 generalize hq:Dh t.reaches c=q1
 have c6:=ya hq
 clear hq
 go_upto_region 3 with (first
  |(refine yf rfl 23 _ rfl w.heap.size 1 rfl (Ad c) _ a1.o qD rfl (CK _) ?_)
  |(go_at_call 88;refine (DN (HS.o.reaches.up G.o.below) c).mono ?_;rintro e c8 ⟨rfl,L⟩;have y:=ya L;clear L;rw[c6.o])
  |(refine A2 rfl 23 _ _ rfl c8.heap.size rfl (Ad (Rf.mk c.name (Aj t.reaches c))) rfl (World.alloc_heap_new _ _) rfl (CK _) (AO _) ?_;intro dt N;have j:=ya N;clear N)
  |(refine yf rfl 23 _ rfl c8.heap.size 0 rfl (Ad (Rf.mk c.name (Aj t.reaches c))) _ (A6 j.o.row) qD rfl (CK _) ?_)
  |(refine A7 rfl 23 _ _ rfl w.heap.size 1 rfl (Ad (Rf.mk c.name (Aj t.reaches c))) rfl (p:=([.string V])) (m:=(Ad c)) (q:=(iV U::(c0++(c1++(c2++([.slice Y S hc])))))) (t:=64) (CN G.o y.o j.o HP.o) (by simp) rfl (CK _) (AO _) ?_;intro dv M;have I:Hid (AB dt dv w.heap.size (.string V::(Ad (Rf.mk c.name (Aj t.reaches c))++(iV U::(c0++(c1++(c2++([.slice Y S hc]))))))) 64):=ya (by simpa[yg] using M);clear M)
 )
 clear l0 l1 l2 l3
 obtain ⟨hB,hV,_⟩:=Ov G.o HV.o (by simp) y.o j.o I.o
 clear G HV y j I HP a1
 have G:=ya hB;have HV:=ya hV
 clear hB hV
 have HP:Hid (.string V::(Ad (Rf.mk c.name (Aj t.reaches c))++(iV U::(c0++(c1++(c2++([.slice Y S hc]))))))=(.string V::(Ad (Rf.mk c.name (Aj t.reaches c))++([iV U])))++((c0)++(c1++(c2++([.slice Y S hc]))))):=ya (by first|rfl|simp[yg])
 have a1:=ya (G.o.part HP.o (off:=4) (by simp[A9]))
 obtain ⟨l0,l1,l2,l3⟩:=G.o.scope HS.o.cells
 obtain ⟨v0,v1,v2,_⟩:=HV.o
 have HC:=ya (BD (F:=FL F [w.heap.size,w.heap.size+2]) (HS.o.lets.up G.o.below) v0 (Br HF.o G.o (by have h1:=G.o.size;intro k P;simp at P;omega)))
 generalize hq:Dp t.lets e0=q2 at HC
 generalize hm:BR t.lets e0=m2 at HC
 have cq:=ya hq;have dm:=ya hm
 clear hq hm v0 v1 v2
 go_upto_region 6 with (first
  |(refine yf rfl 26 _ rfl w.heap.size 4 rfl c0 _ a1.o qF rfl (AE bp.o) ?_)
  |(go_at_call 87;refine HC.o.mono ?_;rintro e u ⟨E,ab,rfl,K,a0,L⟩;have f:=ya K;have dl:=ya a0;have y:=ya L;have J:=ya K.len;clear K a0 L)
  |(refine A2 rfl 26 _ _ rfl (u.heap.size) rfl E rfl (World.alloc_heap_new _ _) (by rw[f.o.len];rfl) (AE f.o.len) (A8 f.o) ?_;intro ej N;have j:=ya N;clear N)
  |(refine yf rfl 26 _ rfl (u.heap.size) 0 rfl E _ (A6 j.o.row) qF rfl (AE f.o.len) ?_)
  |(refine A7 rfl 26 _ _ rfl w.heap.size 4 rfl E rfl (p:=(.string V::(Ad (Rf.mk c.name (Aj t.reaches c))++([iV U])))) (m:=(c0)) (q:=(c1++(c2++([.slice Y S hc])))) (t:=64) (CN G.o y.o j.o HP.o) (by simp[A9]) (by rw[bp.o,J.o]) (AE f.o.len) (A8 f.o) ?_;intro ce M;have I:Hid (AB ej ce w.heap.size (.string V::(Ad (Rf.mk c.name (Aj t.reaches c))++(iV U::(E++(c1++(c2++([.slice Y S hc]))))))) 64):=ya (by simpa[yg] using M);clear M)
  |(refine Ae q1 rfl _ rfl rfl ?_)
  |(refine Ak (g:=q1) rfl _ _ _ rfl rfl (.bool (q1&&q2)) (by cases q1<;>rfl) ?_;generalize s:(q1&&q2)=b1;have bd:=ya s;clear s)
  |(refine Ab (g:=q1) z7 rfl ?_;simp only[CW,Aa])
  |(refine Ab (g:=q1) (Av q1) rfl ?_;simp only[CW,Aa])
  |(rw[AD q1 (q2)];generalize s:(q1&&q2)=b1;have bd:=ya s;clear s))
 clear l0 l1 l2 l3
 obtain ⟨hB,hA,aa,hV,hE⟩:=EB G.o HV.o (by simp) y.o f.o rfl j.o I.o
 clear G HV f y j I HP a1 HC
 have G:=ya hB;have HA:=ya hA;have a6:=ya aa;have a8:=J
 have HV:Hid (VE F [w.heap.size,w.heap.size+2,u.heap.size] ce [E,c1,c2] [ab,e1,e2]):=ya (by
  obtain ⟨v0,v1,v2,_⟩:=hV
  exact ⟨hE,v1,v2,trivial⟩)
 clear hB hA aa hV hE
 have HP:Hid (.string V::(Ad (Rf.mk c.name (Aj t.reaches c))++(iV U::(E++(c1++(c2++([.slice Y S hc]))))))=(.string V::(Ad (Rf.mk c.name (Aj t.reaches c))++(iV U::(E))))++((c1)++(c2++([.slice Y S hc])))):=ya (by first|rfl|simp[yg])
 have a1:=ya (G.o.part HP.o (off:=10) (by simp[A9,J.o]))
 obtain ⟨l0,l1,l2,l3⟩:=G.o.scope HS.o.cells
 obtain ⟨v0,v1,v2,_⟩:=HV.o
 have HC:=ya (BD (F:=FL F [w.heap.size,w.heap.size+2,u.heap.size]) (HS.o.lets.up G.o.below) v1 (Br HF.o G.o (by have h1:=G.o.size;have h2:=(yd.1 HA.o).1;intro k P;simp at P;omega)))
 generalize hq:Dp t.lets e1=q3 at HC
 generalize hm:BR t.lets e1=m3 at HC
 have cb:=ya hq;have e8:=ya hm
 clear hq hm v0 v1 v2
 go_upto_region 9 with (first
  |(refine yf rfl 26 _ rfl w.heap.size 10 rfl c1 _ a1.o qF rfl (AE bk.o) ?_)
  |(go_at_call 87;refine HC.o.mono ?_;rintro e er ⟨H,ah,rfl,K,a0,L⟩;have f:=ya K;have e5:=ya a0;have y:=ya L;have Q:=ya K.len;clear K a0 L)
  |(refine A2 rfl 26 _ _ rfl (u.heap.size) rfl H rfl (Bl y.o HA.o) (by rw[yp,a8.o,f.o.len]) (AE f.o.len) (A8 f.o) ?_;intro dk N;have j:=ya N;clear N)
  |(refine yf rfl 26 _ rfl (u.heap.size) 0 rfl H _ (A6 j.o.row) qF rfl (AE f.o.len) ?_)
  |(refine A7 rfl 26 _ _ rfl w.heap.size 10 rfl H rfl (p:=(.string V::(Ad (Rf.mk c.name (Aj t.reaches c))++(iV U::(E))))) (m:=(c1)) (q:=(c2++([.slice Y S hc]))) (t:=64) (Di G.o y.o a6.o j.o HP.o) (by simp[A9,J.o]) (by rw[bk.o,Q.o]) (AE f.o.len) (A8 f.o) ?_;intro cm M;have I:Hid (AB dk cm w.heap.size (.string V::(Ad (Rf.mk c.name (Aj t.reaches c))++(iV U::(E++(H++(c2++([.slice Y S hc]))))))) 64):=ya (by simpa[yg] using M);clear M)
  |(refine Ae b1 rfl _ rfl rfl ?_)
  |(refine Ak (g:=b1) rfl _ _ _ rfl rfl (.bool (b1&&q3)) (by cases b1<;>rfl) ?_;generalize s:(b1&&q3)=b2;have bi:=ya s;clear s)
  |(refine Ab (g:=b1) z7 rfl ?_;simp only[CW,Aa])
  |(refine Ab (g:=b1) (Av b1) rfl ?_;simp only[CW,Aa])
  |(rw[AD b1 (q3)];generalize s:(b1&&q3)=b2;have bi:=ya s;clear s))
 clear l0 l1 l2 l3
 obtain ⟨hB,hA,aa,hV,hE⟩:=Ca G.o HV.o (by simp) (by simp) a6.o HA.o y.o f.o j.o I.o
 clear G HV f y j I HP a1 HC HA a6 a8
 have G:=ya hB;have HA:=ya hA;have a6:=ya aa;have a8:=Q
 have HV:Hid (VE F [w.heap.size,w.heap.size+2,u.heap.size] cm [E,H,c2] [ab,ah,e2]):=ya (by
  obtain ⟨v0,v1,v2,_⟩:=hV
  exact ⟨v0,hE,v2,trivial⟩)
 clear hB hA aa hV hE
 have HP:Hid (.string V::(Ad (Rf.mk c.name (Aj t.reaches c))++(iV U::(E++(H++(c2++([.slice Y S hc]))))))=(.string V::(Ad (Rf.mk c.name (Aj t.reaches c))++(iV U::(E++(H)))))++((c2)++([.slice Y S hc]))):=ya (by first|rfl|simp[yg])
 have a1:=ya (G.o.part HP.o (off:=16) (by simp[A9,J.o,Q.o]))
 obtain ⟨l0,l1,l2,l3⟩:=G.o.scope HS.o.cells
 obtain ⟨v0,v1,v2,_⟩:=HV.o
 have HC:=ya (BD (F:=FL F [w.heap.size,w.heap.size+2,u.heap.size]) (HS.o.lets.up G.o.below) v2 (Br HF.o G.o (by have h1:=G.o.size;have h2:=(yd.1 HA.o).1;intro k P;simp at P;omega)))
 generalize hq:Dp t.lets e2=q4 at HC
 generalize hm:BR t.lets e2=m4 at HC
 have d2:=ya hq;have ei:=ya hm
 clear hq hm v0 v1 v2
 go_upto_region 12 with (first
  |(refine yf rfl 26 _ rfl w.heap.size 16 rfl c2 _ a1.o qF rfl (AE bb.o) ?_)
  |(go_at_call 87;refine HC.o.mono ?_;rintro e eo ⟨O,ak,rfl,K,a0,L⟩;have f:=ya K;have de:=ya a0;have y:=ya L;have Z:=ya K.len;clear K a0 L)
  |(refine A2 rfl 26 _ _ rfl (u.heap.size) rfl O rfl (Bl y.o HA.o) (by rw[yp,a8.o,f.o.len]) (AE f.o.len) (A8 f.o) ?_;intro dg N;have j:=ya N;clear N)
  |(refine yf rfl 26 _ rfl (u.heap.size) 0 rfl O _ (A6 j.o.row) qF rfl (AE f.o.len) ?_)
  |(refine A7 rfl 26 _ _ rfl w.heap.size 16 rfl O rfl (p:=(.string V::(Ad (Rf.mk c.name (Aj t.reaches c))++(iV U::(E++(H)))))) (m:=(c2)) (q:=([.slice Y S hc])) (t:=64) (Di G.o y.o a6.o j.o HP.o) (by simp[A9,J.o,Q.o]) (by rw[bb.o,Z.o]) (AE f.o.len) (A8 f.o) ?_;intro b5 M;have I:Hid (AB dg b5 w.heap.size (.string V::(Ad (Rf.mk c.name (Aj t.reaches c))++(iV U::(E++(H++(O++([.slice Y S hc]))))))) 64):=ya (by simpa[yg] using M);clear M)
  |(refine Ae b2 rfl _ rfl rfl ?_)
  |(refine Ak (g:=b2) rfl _ _ _ rfl rfl (.bool (b2&&q4)) (by cases b2<;>rfl) ?_;generalize s:(b2&&q4)=b3;have bm:=ya s;clear s)
  |(refine Ab (g:=b2) z7 rfl ?_;simp only[CW,Aa])
  |(refine Ab (g:=b2) (Av b2) rfl ?_;simp only[CW,Aa])
  |(rw[AD b2 (q4)];generalize s:(b2&&q4)=b3;have bm:=ya s;clear s))
 clear l0 l1 l2 l3
 obtain ⟨hB,hA,aa,hV,hE⟩:=Ca G.o HV.o (by simp) (by simp) a6.o HA.o y.o f.o j.o I.o
 clear G HV f y j I HP a1 HC HA a6 a8
 have G:=ya hB;have HA:=ya hA;have a6:=ya aa;have a8:=Z
 have HV:Hid (VE F [w.heap.size,w.heap.size+2,u.heap.size] b5 [E,H,O] [ab,ah,ak]):=ya (by
  obtain ⟨v0,v1,v2,_⟩:=hV
  exact ⟨v0,v1,hE,trivial⟩)
 clear hB hA aa hV hE
 obtain ⟨R,hR⟩:∃R:LV,R=.string V::(Ad (Rf.mk c.name (Aj t.reaches c))++(iV U::(E++(H++(O++([.slice Y S hc])))))):=⟨_,rfl⟩
 obtain ⟨B,hB⟩:∃B:Nat,B=b5.heap.size:=⟨_,rfl⟩
 have a2:Hid (w.heap.size+3<=B∧u.heap.size < B):=ya ⟨by rw[hB];exact G.o.size,by rw[hB];exact (yd.1 HA.o).1⟩
 have W:Hid (PW Fv 66 8 w 64 ls 23 R F [w.heap.size,w.heap.size+2,u.heap.size] [u.heap.size] B [E,H,O] [ab,ah,ak] (fun i=>b3&&(ts.take i).all (Ei t)) (fun i=>(ts.take i).map (DO t)) 0 b3 (.slice none 0 0) b5):=ya (by
  refine ⟨by rw[hR];exact G.o,fun A' c4=>?_,?_,⟨[],FM,rfl,fun _=>rfl⟩,by simp,by rw[hB];exact ye _⟩
  ·rw[zg.1 c4];exact ⟨_,a8.o,HA.o⟩
  ·simpa[ob,Value.ownBlock] using HV.o)
 have dd:=ya hR;have eq:=ya hB
 clear G HV HA a8 hR hB
 go_wp2
 go_loopw [7,10,11] (fun v7 ec iv wr=>∃(i:Nat) (b:Bool),v7=.bool b∧iv=iV i∧i<=S∧Hid (PW Fv 66 8 w 64 ls 23 R F [w.heap.size,w.heap.size+2,u.heap.size] [u.heap.size] B [E,H,O] [ab,ah,ak] (fun i=>b3&&(ts.take i).all (Ei t)) (fun i=>(ts.take i).map (DO t)) i b ec wr)) (fun _ _ iv _=>S - (intOf iv).toNat)
 case atStart=>exact ⟨0,b3,rfl,rfl,yv _,W⟩
 case round=>
  clear W
  obtain ⟨i,b,rfl,rfl,hi,W⟩:=hrel
  have hf:=CL (W.o.bx.part (p:=.string V::(Ad (Rf.mk c.name (Aj t.reaches c))++(iV U::(E++(H++(O)))))) (m:=[.slice Y S hc]) (q:=[]) (off:=22) (by rw[dd.o];first|rfl|simp[yg]) (by simp[A9,J.o,Q.o,Z.o]))
  have em:S<=140737488355328:=d1.o
  by_cases e3:i < S
  ·have ax:i < ts.length:=by rw[<-b4.o];exact e3
   have bv:(i:Int) < (S:Int):=by omega
   obtain ⟨bq,oq,ep,he,d7,dw,cj,ch⟩:=d8.o i ax
   obtain rfl:Y=some (aV bq oq):=he
   have ac:Hid ((fun i=>b3&&(ts.take i).all (Ei t)) (i+1)=((b&&Dh t.farms ts[i].farm)&&Dp t.lets ts[i].len)):=ya (by
    have h1:b=(b3&&(ts.take i).all (Ei t)):=W.o.b
    show (b3&&(ts.take (i+1)).all (Ei t))=_
    rw[yr ax,z8,zb,zn,zj,<-zM,<-h1,Ei,zM])
   have ba:Hid ((fun i=>(ts.take i).map (DO t)) (i+1)=(fun i=>(ts.take i).map (DO t)) i++[DO t ts[i]]):=ya (by
    show (ts.take (i+1)).map (DO t)=(ts.take i).map (DO t)++[DO t ts[i]]
    rw[yr ax,ze];rfl)
   have ef:Hid (i+1<=1000000):=ya (by have:=bt.o;omega)
   generalize hD:ts[i]=D at ch ac ba
   clear hD
   obtain ⟨T,et⟩:=D
   obtain ⟨ci,ct,rfl,am⟩:=ch
   have dh:=ya am
   have b8:=ya am.len
   have d4:Hid (wr.rangeAt bq (oq+i*8) (Ad T++ct)):=ya (A1 cj (W.o.bx.below.block bq d7.2))
   have ee:=ya ci
   have b7:Hid ((Ad T++ct).length=8):=ya (by simp[A9,am.len])
   have ay:Hid (∀v∈Ad T++ct,v.oneCell'=true):=ya (Ai (AO _) (A8 am))
   have aw:Hid (w.heap.size+3<=wr.heap.size):=ya W.o.bx.size
   clear cj am ci dw d7 ax
   go_upto_region 17 with (first
    |(refine yf rfl 66 _ rfl bq (oq+i*8) rfl (Ad T++ct) _ d4.o qY rfl (AX (n:=8) (by kernel_rfl) b7.o) ?_)
    |(refine A2 rfl 66 _ _ rfl wr.heap.size rfl (Ad T++ct) rfl (World.alloc_heap_new _ _) (by rw[b7.o];rfl) (AX (n:=8) (by kernel_rfl) b7.o) ay.o ?_;intro x1 ad;have bs:=ya ad;clear ad))
   have HT:=ya (Mn (F:=F) (l:=[w.heap.size,w.heap.size+2,u.heap.size]) (B:=B) (C:=w.heap.size+3) aw.o bs.o)
   have b9:=ya (FN bs.o)
   clear bs d4 bv hf b7 ay
   have X:=ya (W.o.bx.up HT.o.rnd.below)
   obtain ⟨l0,l1,l2,l3⟩:=X.o.scope HS.o.cells
   have aj:=ya (HT.o.part (p:=[]) (m:=Ad T) (q:=ct) (off:=0) rfl rfl)
   generalize hq:Dh t.farms T=z1 at ac
   have eg:=ya hq
   clear hq
   go_upto_region 19 with (first
    |(refine yf rfl 23 _ rfl wr.heap.size 0 rfl (Ad T) _ aj.o qD rfl (CK _) ?_)
    |(go_at_call 88;refine (DN (HS.o.farms.up X.o.below) T).mono ?_;rintro e x2 ⟨rfl,L⟩;have y:=ya L;clear L;rw[eg.o])
    |(refine A2 rfl 23 _ _ rfl x2.heap.size rfl (Ad (Rf.mk T.name (Aj t.farms T))) rfl (World.alloc_heap_new _ _) rfl (CK _) (AO _) ?_;intro x3 N;have j:=ya N;clear N)
    |(refine yf rfl 23 _ rfl x2.heap.size 0 rfl (Ad (Rf.mk T.name (Aj t.farms T))) _ (A6 j.o.row) qD rfl (CK _) ?_)
    |(refine A7 rfl 23 _ _ rfl wr.heap.size 0 rfl (Ad (Rf.mk T.name (Aj t.farms T))) rfl (p:=[]) (m:=Ad T) (q:=ct) (t:=66) (Wb HT.o y.o j.o rfl) rfl rfl (CK _) (AO _) ?_;intro x4 M;have I:Hid (AB x3 x4 wr.heap.size (Ad (Rf.mk T.name (Aj t.farms T))++ct) 66):=ya (by simpa[yg] using M);clear M))
   clear l0 l1 l2 l3
   have af:=ya (HT.o.first aw.o y.o j.o I.o)
   have be:=ya (PV b9.o y.o j.o I.o)
   clear HT X aj y j I b9
   have X:=ya (W.o.bx.up af.o.rnd.below)
   obtain ⟨l0,l1,l2,l3⟩:=X.o.scope HS.o.cells
   have aj:=ya (af.o.part (p:=Ad (Rf.mk T.name (Aj t.farms T))) (m:=ct) (q:=[]) (off:=2) (by simp) (by simp[A9]))
   have d9:=ya (W.o.grow)
   have bz:Hid (∀k∈([w.heap.size,w.heap.size+2,u.heap.size]++ob u10)++[wr.heap.size],w.heap.size<=k∧k < x4.heap.size):=ya (by
    obtain ⟨ds,hG,_⟩:=W.o.grow
    have h1:=a2.o;have h2:=aw.o;have h3:=af.o.lt;have h5:=W.o.size;have h6:=a6.o
    intro k P
    rcases yn.1 P with P|P
    ·rcases yn.1 P with P|P
     ·simp at P;omega
     ·have:=hG.lt k P;omega
    ·simp at P;omega)
   have HC:=ya (BD (F:=FL F (([w.heap.size,w.heap.size+2,u.heap.size]++ob u10)++[wr.heap.size])) (HS.o.lets.up X.o.below) (Oy dh.o X.o.below fun k P=>(bz.o k P).1) (FG (fun b hb=>yk (HF.o b hb) X.o.below.size) fun k P=>(bz.o k P).2))
   generalize hq:Dp t.lets et=z2 at HC ac
   generalize hm:BR t.lets et=m9 at HC
   have ed:=ya hm
   have cc:Hid (∃ca:LV,ca.length=6∧x4.heap[u.heap.size]?=some (.cells ca.toArray 26 (0,0))):=ya (by
    obtain ⟨ca,h1,h2⟩:=W.o.a u.heap.size (by simp)
    exact ⟨ca,h1,(be.o.block _ (by have h1:=a2.o;have h5:=W.o.size;omega)).trans h2⟩)
   obtain ⟨ca,bj,bh⟩:=cc.o
   have cg:=ya bj;have cv:=ya bh
   clear hq hm cc bj bh be
   go_upto_region 21 with (first
    |(refine yf rfl 26 _ rfl wr.heap.size 2 rfl ct _ aj.o qF rfl (AE b8.o) ?_)
    |(go_at_call 87;refine HC.o.mono ?_;rintro e x5 ⟨cn,en,rfl,K,a0,L⟩;have f:=ya K;have dj:=ya a0;have y:=ya L;clear K a0 L)
    |(refine A2 rfl 26 _ _ rfl (u.heap.size) rfl cn rfl (Bl y.o cv.o) (by rw[yp,cg.o,f.o.len]) (AE f.o.len) (A8 f.o) ?_;intro x6 N;have j:=ya N;clear N)
    |(refine yf rfl 26 _ rfl (u.heap.size) 0 rfl cn _ (A6 j.o.row) qF rfl (AE f.o.len) ?_)
    |(refine A7 rfl 26 _ _ rfl wr.heap.size 2 rfl cn rfl (p:=Ad (Rf.mk T.name (Aj t.farms T))) (m:=ct) (q:=[]) (t:=66) (Wc af.o y.o (by have h1:=a2.o;have h5:=W.o.size;omega) j.o (by simp)) (by simp[A9]) (by rw[b8.o,f.o.len]) (AE f.o.len) (A8 f.o) ?_;intro x7 M;have I:Hid (AB x6 x7 wr.heap.size (Ad (Rf.mk T.name (Aj t.farms T))++cn) 66):=ya (by simpa[yg] using M);clear M))
   clear l0 l1 l2 l3
   have au:=ya (af.o.next aw.o (A:=u.heap.size) (by simp) a2.o.2 a6.o y.o j.o I.o)
   have dp:=ya (Vp (l':=[w.heap.size,w.heap.size+2,u.heap.size]++ob u10) f.o (by simp) j.o I.o)
   have el:Hid (x7.heap[u.heap.size]?=some (.cells cn.toArray 26 (0,0))):=ya ((I.o.block _ (by have h1:=a2.o;have h5:=W.o.size;omega)).trans j.o.row)
   have dc:=ya f.o.len
   obtain ⟨R8,an⟩:∃R8:LV,R8=Ad (Rf.mk T.name (Aj t.farms T))++cn:=⟨_,rfl⟩
   have dy:Hid (x7.heap[wr.heap.size]?=some (.cells R8.toArray 66 (0,0))):=ya (by rw[an];exact au.o.x)
   have av:Hid (R8.length=8):=ya (by rw[an];simp[A9,f.o.len])
   have ay:Hid (∀v∈R8,v.oneCell'=true):=ya (by rw[an];exact Ai (AO _) (A8 f.o))
   have ek:=ya an
   clear an y j I f af X aj cg cv bz HC
   obtain ⟨ds,hG,ae,al⟩:=W.o.grow
   obtain ⟨rows,az,cp,ai⟩:=(hG.rnd Jl au.o.rnd).own
   have du:=ya az;have cr:=ya cp;have da:=ya ai;have c3:=ya ae;have c5:=ya al
   have bn:Hid (B<=x7.heap.size):=ya (yo W.o.size au.o.rnd.flux.1)
   have cw:Hid ((x7.alloc (.cells R8.toArray 66)).ownsRow B 66 8 u10 rows.length rows.flatten):=ya (Cg az fun k P=>((yc _ _).alloc (ye _) _).block k (Gl az k P).2)
   have eb:Hid (rows.length+1<=1000000):=ya (by rw[AW.length ai,ae];exact ef.o)
   have dq:Hid (B<=(x7.alloc (.cells R8.toArray 66)).heap.size):=ya (by have:=bn.o;simp;omega)
   clear az cp ai ae al hG
   go_wp2_with (first
    |(refine Ae b rfl _ rfl rfl ?_)
    |(refine Ak (g:=b) rfl _ _ _ rfl rfl (.bool (b&&z1)) (by cases b<;>rfl) ?_;generalize s:(b&&z1)=y1;have cl:=ya s;clear s)
    |(refine Ae y1 rfl _ rfl rfl ?_)
    |(refine Ak (g:=y1) rfl _ _ _ rfl rfl (.bool (y1&&z2)) (by cases y1<;>rfl) ?_;generalize s:(y1&&z2)=y2;have cx:=ya s;clear s)
    |(refine yf rfl 66 _ rfl wr.heap.size 0 rfl R8 _ (A6 dy.o) qY rfl (AX (n:=8) (by kernel_rfl) av.o) ?_)
    |(refine Ct rfl 62 66 _ rfl R8 rfl 8 qW (by kernel_rfl) av.o (by omega) (by omega) ?_)
    |(at_builtin;refine BT qW rfl _ _ rfl 8 (by kernel_rfl) (by omega) B u10 rows.length rows.flatten rfl cw.o x7.heap.size 1 R8 rfl (World.alloc_heap_new _ _) av.o ay.o eb.o dq.o ?_;intro vn x8 bg cz d5;have cf:=ya bg;have d9:=ya cz;have e6:=ya d5;clear bg cz d5)
    |(refine Ab (g:=b) z7 rfl ?_;simp only[CW,Aa])
    |(refine Ab (g:=b) (Av b) rfl ?_;simp only[CW,Aa])
    |(rw[AD b z1];generalize s:(b&&z1)=y1;have cl:=ya s;clear s)
    |(refine Ab (g:=y1) z7 rfl ?_;simp only[CW,Aa])
    |(refine Ab (g:=y1) (Av y1) rfl ?_;simp only[CW,Aa])
    |(rw[AD y1 z2];generalize s:(y1&&z2)=y2;have cx:=ya s;clear s))
   have e7:=Dj (d:=(⟨⟨T.name,Aj t.farms T⟩,en⟩:BM)) Jl da.o cr.o du.o ⟨ee.o,cn,ek.o,dp.o⟩ av.o cf.o d9.o e6.o bn.o
   have c7:y2=((b&&z1)&&z2):=by rw[cl.o,cx.o]
   refine ⟨⟨i+1,y2,rfl,by push_cast;rfl,by omega,ya (W.o.next au.o.rnd a2.o.1 (fun A' c4=>?_) e7 c3.o ?_ ?_)⟩,by simp[intOf];omega⟩
   ·rw[zg.1 c4];exact ⟨a2.o.2,cn,dc.o,el.o⟩
   ·rw[c7];exact ac.o.symm
   ·intro hy
    rw[c7] at hy
    simp only[ym] at hy
    refine qn ?_ ba.o.symm
    rw[c5.o hy.1.1,dj.o hy.2,<-ed.o]
    rfl
  ·obtain rfl:i=S:=by omega
   have bv:decide ((i:Int) < (i:Int))=false:=by simp
   obtain ⟨ds,hG,ae,al⟩:=W.o.grow
   obtain ⟨va,vn,vc,rfl⟩:=hG.slice
   have X:=ya W.o.bx
   have HG:=ya hG;have c3:=ya ae;have c5:=ya al
   have cu:=ya W.o.ve
   have e4:=ya W.o.b
   have ap:Hid (wr.heap[w.heap.size]?=some (.cells ((.string V::(Ad (Rf.mk c.name (Aj t.reaches c))++(iV U::(E++(H++(O))))))++(.slice Y i hc::[]):LV).toArray 64 (0,0))):=ya (by
    have h:=W.o.bx.x
    rw[dd.o] at h
    simpa[yg] using h)
   clear hG ae al
   go_upto_region 24 with (first
    |(refine AQ rfl 62 _ _ rfl w.heap.size 22 rfl (.slice va vn vc) rfl rfl (p:=.string V::(Ad (Rf.mk c.name (Aj t.reaches c))++(iV U::(E++(H++(O)))))) (m:=.slice Y i hc) (q:=[]) (t:=64) ap.o (by simp[A9,J.o,Q.o,Z.o]) (by kernel_rfl) rfl ?_;intro y1 ag;have aq:Hid (AB wr y1 w.heap.size (.string V::(Ad (Rf.mk c.name (Aj t.reaches c))++(iV U::(E++(H++(O++([.slice va vn vc]))))))) 64):=ya (by simpa[yg] using ag);clear ag))
   clear hf bv ap
   have G:=ya (X.o.wrote aq.o)
   have HV:Hid (VE F ([w.heap.size,w.heap.size+2,u.heap.size]++ob (.slice va vn vc)) y1 [E,H,O] [ab,ah,ak]):=ya (cu.o.up (aq.o.flux (.inr (by simp))) (fun k P=>.inl P))
   have d6:=ya (HG.o.up (l':=[w.heap.size,w.heap.size+2,u.heap.size]) Jl (aq.o.flux (.inr (by simp))) (fun k P=>aq.o.block k (by have h1:=(HG.o.lt k P).1;have h2:=a2.o;omega)) (fun k P=>.inl P))
   clear X cu HG aq W
   obtain ⟨zr,co,ck⟩:=G.o.r
   have HZ:=ya co;have e9:=ya ck
   clear co ck
   obtain ⟨row,a7⟩:∃r:LV,r=.string V::(Ad (Rf.mk c.name (Aj t.reaches c))++(iV U::(E++(H++(O++([.slice va vn vc])))))):=⟨_,rfl⟩
   rw[<-a7] at G
   have HN:Hid (row.length=23):=ya (by rw[a7];exact (by simp[A9,J.o,Q.o,Z.o]))
   have db:Hid (∀v∈row,v.oneCell'=true):=ya (by
    obtain ⟨v0,v1,v2,_⟩:=HV.o
    rw[a7]
    exact (An rfl (Ai (AO _) (An rfl (Ai (A8 v0) (Ai (A8 v1) (Ai (A8 v2) (An rfl (fun _ h=>nomatch h)))))))))
   have cy:=ya a7
   clear a7
   go_wp2_with (first
    |(refine yf rfl 64 _ rfl w.heap.size 0 rfl row _ (A6 G.o.x) qX rfl (AX (n:=23) (by kernel_rfl) HN.o) ?_)
    |(refine A2 rfl 64 _ _ rfl (w.heap.size+2) rfl row rfl e9.o (by rw[yp,HZ.o,HN.o]) (AX (n:=23) (by kernel_rfl) HN.o) db.o ?_;intro w9 cd;have ao:=ya cd;clear cd)
   )
   refine At rfl rfl ao.o.row qX rfl (AX (n:=23) (by kernel_rfl) HN.o) ?_
   obtain ⟨v0,v1,v2,_⟩:=FI HV.o (by simp) ao.o
   have eh:=ya ((d6.o.row Jl (W':=w9) (ao.o.flux (.inr (by simp))) (fun k P=>ao.o.block k (by have h1:=(d6.o.lt k P).1;have h2:=a2.o;omega)) (fun b hb=>by have h1:=HF.o b hb;have h2:=a2.o;omega) (by have:=bt.o;have:=c3.o;omega)))
   obtain ⟨hd,ea,dx⟩:=eh.o
   have d3:b=((((q1&&q2)&&q3)&&q4)&&ts.all (Ei t)):=by
    have h:b=(b3&&(ts.take i).all (Ei t)):=e4.o
    rw[h,b4.o,yx,<-bm.o,<-bi.o,<-bd.o]
   refine ⟨row,⟨V,⟨c.name,Aj t.reaches c⟩,U,ab,ah,ak,ds⟩,BH rfl (yz Value.bool (by rw[d3];simp only[Du,c6.o,cq.o,cb.o,d2.o])),⟨hd,g1,g2,E,H,O,by rw[<-ea];exact cy.o,v0,v1,v2,dx⟩,?_,ao.o.below G.o.below (by omega)⟩
   intro hq
   simp only[Du,c6.o,cq.o,cb.o,d2.o,ym] at hq
   have di:b=true:=by rw[d3];simp only[ym];exact hq
   obtain ⟨⟨⟨⟨k1,k2⟩,k3⟩,k4⟩,k5⟩:=hq
   have d0:ds=(ts.take i).map (DO t):=c5.o di
   rw[b4.o,yx] at d0
   simp only[Cu,H6,dl.o k2,dm.o,e5.o k3,e8.o,de.o k4,ei.o,d0]
end Go.Proofs.Ytghepahgkcigpaa
