/- The reference's reach: what follows on the reference to the upper reach (printed by gen_ys.py). -/
import Derived.Test.YtghepahgkcigpaaQ0
import Derived.Test.YtghepahgkcigpaaQ11
set_option maxRecDepth 100000
set_option maxHeartbeats 64000000
set_option linter.unusedSimpArgs false
namespace Go.Proofs.Ytghepahgkcigpaa
open Go.RowKit
theorem Qc{ops:Array Oper}{rest:List Oper}{o:Oper}{a:Act}{w:World}{Q:QT}{x y:Operand}(f:o.op=.binOp .eql 23 x y 23)(b:o.guard=none)(r:Rf)(d:a.eval x=.agg (Ad r).toArray)(c:a.eval y=.agg #[.string {data:=#[]},.int .i64 0])
 (h:wpList Try.prog ops Q rest (a.put o.dst (.bool (Hs r))) w):wpList Try.prog ops Q (o::rest) a w:=
 yF b fun _ e=>Um x y f r d c (e _ _ h)
structure Ke (w:World) (ls:List Value) (F:Nat->Prop) (l:List Nat) (A:Nat) (p:List Value) (cf:List (List Value)) (ef:List Ex) (x4 x5 x6 x7:List Value) (y4 y5 y6 y7:Ex) (ca:List Value) (W:World):Prop where
 bx:Bx w 51 ls 51 (p++(x4++(x5++(x6++x7)))) W
 a:W.heap[A]?=some (.cells ca.toArray 26 (0,0))
 la:ca.length=6
 lA:w.heap.size+3<=A
 ve:VE F l W (cf++[x4,x5,x6,x7]) (ef++[y4,y5,y6,y7])
def J2(w:World)(ls:LV)(F:NP)(l:List Nat)(A:Nat)(p:LV)(i:List LV)(h:List Ex)(x4 x5 f c:LV)(b a d e:Ex)(W:World):Prop:=∃g,Ke w ls F l A p i h x4 x5 f c b a d e g W
theorem JS{dn:ByteArray}{dr dz:Rf}{q0:Bool}{e0 e1 e2 e3 e4 e5 e6 e7:Ex}{c0 c1 c2 c3 c4 Q Y E:LV}{F:NP}{w W0:World}{ls:LV}{h0 a1 ia h3:AF}{t:Tb}{i:Nat}{u0 u1 u2 u5 u7 u9 fh g9 eu f0 gn i0 h9 hx ft en ei ga gs f3 gt h7 ej ho f9 f1 i2 gx gq hf fs g0 ed hh fj f2 ha fb g7 gu eg fc f6 fy fz hy eq fe go gc fa gd fq gl fi el i1 fk i7 gh fp hr fg gj hj gk h8 ek fd gr hv gv fw f4 et fm eo eh ht gw hg hw gb fx g6 g8 gy fo ey gp em gm ev ef ep ee dt cy cu dy d1 ct ch de du di ck bz dk db cf eb da d4 cq cm dh e9 cn d2 d3 d0 dj dd e8 cg d9:Value}(h1:dn.size<=maxLen)(h2:dz.name.size<=maxLen)
 (hB:Bx w 51 ls 51 (.string dn::(Ad dz++(c0++(c1++(c2++(c3++(c4++(Q++(Y++E))))))))) W0)(hV:VE F [w.heap.size,w.heap.size+2] W0 [c0,c1,c2,c3,c4,Q,Y,E] [e0,e1,e2,e3,e4,e5,e6,e7])(hs:MN w ls h0 a1 ia h3 t)(hF:∀b,F b->b < w.heap.size)
 (cb:BI t ⟨dn,dr,e0,e1,e2,e3,e4,e5,e6,e7⟩ i=((((((((q0&&Dp t.lets e0)&&Dp t.lets e1)&&Dp t.lets e2)&&Dp t.lets e3)&&Dp t.lets e4)&&Dp t.lets e6)&&Dp t.lets e5)&&Dp t.lets e7))(d6:q0=true->(Bt t ⟨dn,dr,e0,e1,e2,e3,e4,e5,e6,e7⟩ i).frm=dz):
  Code.wp Try.prog (DM 3 (Try.f57.body.getD .skip)) (bodyPost Try.prog Try.f57 (ES CY F w (BI t ⟨dn,dr,e0,e1,e2,e3,e4,e5,e6,e7⟩ i) (Bt t ⟨dn,dr,e0,e1,e2,e3,e4,e5,e6,e7⟩ i))) {tmps:=#[u0,u1,u2,.pointer (some ⟨w.heap.size,0,none⟩),.pointer (some ⟨w.heap.size+1,0,none⟩),u5,.pointer (some ⟨w.heap.size+2,0,none⟩),u7,.bool q0,u9,fh,g9,eu,f0,gn,i0,h9,hx,ft,en,ei,ga,gs,f3,gt,h7,ej,ho,f9,f1,i2,gx,gq,hf,fs,g0,ed,hh,fj,f2,ha,fb,g7,gu,eg,fc,f6,fy,fz,hy,eq,fe,go,gc,fa,gd,fq,gl,fi,el,i1,fk,i7,gh,fp,hr,fg,gj,hj,gk,h8,ek,fd,gr,hv,gv,fw,f4,et,fm,eo,eh,ht,gw,hg,hw,gb,fx,g6,g8,gy,fo,ey,gp,em,gm,ev,ef,ep,ee,dt,cy,cu,dy,d1,ct,ch,de,du,di,ck,bz,dk,db,cf,eb,da,d4,cq,cm,dh,e9,cn,d2,d3,d0,dj,dd,e8,cg,d9],defers:=[]} W0:=by
 have HS:=ya hs
 have HF:=ya hF
 have dx:=ya cb
 have ib:=ya d6
 have P:=ya hB
 have HV:=ya hV
 obtain ⟨v0,v1,v2,v3,v4,v5,v6,v7,_⟩:=hV
 have bm:=ya v0.len
 have bp:=ya v1.len
 have bn:=ya v2.len
 have bg:=ya v3.len
 have ii:=ya v4.len
 have ig:=ya v5.len
 have ih:=ya v6.len
 have ie:=ya v7.len
 clear hs hF cb d6 hB v0 v1 v2 v3 v4 v5 v6 v7
 refine wp_seq ?_
 have HP:Hid (.string dn::(Ad dz++(c0++(c1++(c2++(c3++(c4++(Q++(Y++(E)))))))))=(.string dn::(Ad dz))++((c0)++(c1++(c2++(c3++(c4++(Q++(Y++(E))))))))):=ya (by first|rfl|simp[yg])
 have O:=ya (P.o.part HP.o (off:=3) (by simp[A9]))
 obtain ⟨l0,l1,l2,l3⟩:=P.o.scope HS.o.cells
 obtain ⟨v0,v1,v2,v3,v4,v5,v6,v7,_⟩:=HV.o
 have U:=ya (BD (F:=FL F [w.heap.size,w.heap.size+2]) (HS.o.lets.up P.o.below) v0 (Br HF.o P.o (by have h1:=P.o.size;intro k hk;simp at hk;omega)))
 generalize hq:Dp t.lets e0=q1 at U
 generalize hm:BR t.lets e0=m1 at U
 have dg:=ya hq;have g5:=ya hm
 clear hq hm v0 v1 v2 v3 v4 v5 v6 v7
 go_upto_region 10 with (first
  |(refine yf rfl 26 _ rfl w.heap.size 3 rfl c0 _ O.o qF rfl (AE bm.o) ?_)
  |(go_at_call 87;refine U.o.mono ?_;rintro e f ⟨y,Z,rfl,C,G,M⟩;have d:=ya C;have bb:=ya G;have j:=ya M;have T:=ya C.len;clear C G M)
  |(refine A2 rfl 26 _ _ rfl (f.heap.size) rfl y rfl (World.alloc_heap_new _ _) (by rw[d.o.len];rfl) (AE d.o.len) (A8 d.o) ?_;intro hn ar;have u:=ya ar;clear ar)
  |(refine yf rfl 26 _ rfl (f.heap.size) 0 rfl y _ (A6 u.o.row) qF rfl (AE d.o.len) ?_)
  |(refine A7 rfl 26 _ _ rfl w.heap.size 3 rfl y rfl (p:=(.string dn::(Ad dz))) (m:=(c0)) (q:=(c1++(c2++(c3++(c4++(Q++(Y++(E)))))))) (t:=51) (CN P.o j.o u.o HP.o) (by simp[A9]) (by rw[bm.o,T.o]) (AE d.o.len) (A8 d.o) ?_;intro cr I;have H:Hid (AB hn cr w.heap.size (.string dn::(Ad dz++(y++(c1++(c2++(c3++(c4++(Q++(Y++(E)))))))))) 51):=ya (by simpa[yg] using I);clear I)
  |(refine Ae q0 rfl _ rfl rfl ?_)
  |(refine Ak (g:=q0) rfl _ _ _ rfl rfl (.bool (q0&&q1)) (by cases q0<;>rfl) ?_;generalize s:(q0&&q1)=b1;have bi:=ya s;clear s)
  |(refine Ab (g:=q0) z7 rfl ?_;simp only[CW,Aa])
  |(refine Ab (g:=q0) (Av q0) rfl ?_;simp only[CW,Aa])
  |(rw[AD q0 (q1)];generalize s:(q0&&q1)=b1;have bi:=ya s;clear s))
 clear l0 l1 l2 l3
 obtain ⟨hB,hA,X,hV,hE⟩:=EB P.o HV.o (by simp) j.o d.o rfl u.o H.o
 clear P HV d j u H HP O U
 have P:=ya hB;have HA:=ya hA;have af:=ya X;have aq:=T
 have HV:Hid (VE F [w.heap.size,w.heap.size+2,f.heap.size] cr [y,c1,c2,c3,c4,Q,Y,E] [Z,e1,e2,e3,e4,e5,e6,e7]):=ya (by
  obtain ⟨v0,v1,v2,v3,v4,v5,v6,v7,_⟩:=hV
  exact ⟨hE,v1,v2,v3,v4,v5,v6,v7,trivial⟩)
 clear hB hA X hV hE
 have HP:Hid (.string dn::(Ad dz++(y++(c1++(c2++(c3++(c4++(Q++(Y++(E)))))))))=(.string dn::(Ad dz++(y)))++((c1)++(c2++(c3++(c4++(Q++(Y++(E)))))))):=ya (by first|rfl|simp[yg])
 have O:=ya (P.o.part HP.o (off:=9) (by simp[A9,T.o]))
 obtain ⟨l0,l1,l2,l3⟩:=P.o.scope HS.o.cells
 obtain ⟨v0,v1,v2,v3,v4,v5,v6,v7,_⟩:=HV.o
 have U:=ya (BD (F:=FL F [w.heap.size,w.heap.size+2,f.heap.size]) (HS.o.lets.up P.o.below) v1 (Br HF.o P.o (by have h1:=P.o.size;have h2:=(yd.1 HA.o).1;intro k hk;simp at hk;omega)))
 generalize hq:Dp t.lets e1=q2 at U
 generalize hm:BR t.lets e1=m2 at U
 have d8:=ya hq;have gi:=ya hm
 clear hq hm v0 v1 v2 v3 v4 v5 v6 v7
 go_upto_region 13 with (first
  |(refine yf rfl 26 _ rfl w.heap.size 9 rfl c1 _ O.o qF rfl (AE bp.o) ?_)
  |(go_at_call 87;refine U.o.mono ?_;rintro e ik ⟨B,a7,rfl,C,G,M⟩;have d:=ya C;have ba:=ya G;have j:=ya M;have ae:=ya C.len;clear C G M)
  |(refine A2 rfl 26 _ _ rfl (f.heap.size) rfl B rfl (Bl j.o HA.o) (by rw[yp,aq.o,d.o.len]) (AE d.o.len) (A8 d.o) ?_;intro f5 ar;have u:=ya ar;clear ar)
  |(refine yf rfl 26 _ rfl (f.heap.size) 0 rfl B _ (A6 u.o.row) qF rfl (AE d.o.len) ?_)
  |(refine A7 rfl 26 _ _ rfl w.heap.size 9 rfl B rfl (p:=(.string dn::(Ad dz++(y)))) (m:=(c1)) (q:=(c2++(c3++(c4++(Q++(Y++(E))))))) (t:=51) (Di P.o j.o af.o u.o HP.o) (by simp[A9,T.o]) (by rw[bp.o,ae.o]) (AE d.o.len) (A8 d.o) ?_;intro d5 I;have H:Hid (AB f5 d5 w.heap.size (.string dn::(Ad dz++(y++(B++(c2++(c3++(c4++(Q++(Y++(E)))))))))) 51):=ya (by simpa[yg] using I);clear I)
  |(refine Ae b1 rfl _ rfl rfl ?_)
  |(refine Ak (g:=b1) rfl _ _ _ rfl rfl (.bool (b1&&q2)) (by cases b1<;>rfl) ?_;generalize s:(b1&&q2)=b2;have bo:=ya s;clear s)
  |(refine Ab (g:=b1) z7 rfl ?_;simp only[CW,Aa])
  |(refine Ab (g:=b1) (Av b1) rfl ?_;simp only[CW,Aa])
  |(rw[AD b1 (q2)];generalize s:(b1&&q2)=b2;have bo:=ya s;clear s))
 clear l0 l1 l2 l3
 obtain ⟨hB,hA,X,hV,hE⟩:=Ca P.o HV.o (by simp) (by simp) af.o HA.o j.o d.o u.o H.o
 clear P HV d j u H HP O U HA af aq
 have P:=ya hB;have HA:=ya hA;have af:=ya X;have aq:=ae
 have HV:Hid (VE F [w.heap.size,w.heap.size+2,f.heap.size] d5 [y,B,c2,c3,c4,Q,Y,E] [Z,a7,e2,e3,e4,e5,e6,e7]):=ya (by
  obtain ⟨v0,v1,v2,v3,v4,v5,v6,v7,_⟩:=hV
  exact ⟨v0,hE,v2,v3,v4,v5,v6,v7,trivial⟩)
 clear hB hA X hV hE
 have HP:Hid (.string dn::(Ad dz++(y++(B++(c2++(c3++(c4++(Q++(Y++(E)))))))))=(.string dn::(Ad dz++(y++(B))))++((c2)++(c3++(c4++(Q++(Y++(E))))))):=ya (by first|rfl|simp[yg])
 have O:=ya (P.o.part HP.o (off:=15) (by simp[A9,T.o,ae.o]))
 obtain ⟨l0,l1,l2,l3⟩:=P.o.scope HS.o.cells
 obtain ⟨v0,v1,v2,v3,v4,v5,v6,v7,_⟩:=HV.o
 have U:=ya (BD (F:=FL F [w.heap.size,w.heap.size+2,f.heap.size]) (HS.o.lets.up P.o.below) v2 (Br HF.o P.o (by have h1:=P.o.size;have h2:=(yd.1 HA.o).1;intro k hk;simp at hk;omega)))
 generalize hq:Dp t.lets e2=q3 at U
 generalize hm:BR t.lets e2=m3 at U
 have dp:=ya hq;have i6:=ya hm
 clear hq hm v0 v1 v2 v3 v4 v5 v6 v7
 go_upto_region 16 with (first
  |(refine yf rfl 26 _ rfl w.heap.size 15 rfl c2 _ O.o qF rfl (AE bn.o) ?_)
  |(go_at_call 87;refine U.o.mono ?_;rintro e io ⟨D,ac,rfl,C,G,M⟩;have d:=ya C;have b8:=ya G;have j:=ya M;have ap:=ya C.len;clear C G M)
  |(refine A2 rfl 26 _ _ rfl (f.heap.size) rfl D rfl (Bl j.o HA.o) (by rw[yp,aq.o,d.o.len]) (AE d.o.len) (A8 d.o) ?_;intro ff ar;have u:=ya ar;clear ar)
  |(refine yf rfl 26 _ rfl (f.heap.size) 0 rfl D _ (A6 u.o.row) qF rfl (AE d.o.len) ?_)
  |(refine A7 rfl 26 _ _ rfl w.heap.size 15 rfl D rfl (p:=(.string dn::(Ad dz++(y++(B))))) (m:=(c2)) (q:=(c3++(c4++(Q++(Y++(E)))))) (t:=51) (Di P.o j.o af.o u.o HP.o) (by simp[A9,T.o,ae.o]) (by rw[bn.o,ap.o]) (AE d.o.len) (A8 d.o) ?_;intro cp I;have H:Hid (AB ff cp w.heap.size (.string dn::(Ad dz++(y++(B++(D++(c3++(c4++(Q++(Y++(E)))))))))) 51):=ya (by simpa[yg] using I);clear I)
  |(refine Ae b2 rfl _ rfl rfl ?_)
  |(refine Ak (g:=b2) rfl _ _ _ rfl rfl (.bool (b2&&q3)) (by cases b2<;>rfl) ?_;generalize s:(b2&&q3)=b3;have bq:=ya s;clear s)
  |(refine Ab (g:=b2) z7 rfl ?_;simp only[CW,Aa])
  |(refine Ab (g:=b2) (Av b2) rfl ?_;simp only[CW,Aa])
  |(rw[AD b2 (q3)];generalize s:(b2&&q3)=b3;have bq:=ya s;clear s))
 clear l0 l1 l2 l3
 obtain ⟨hB,hA,X,hV,hE⟩:=Ca P.o HV.o (by simp) (by simp) af.o HA.o j.o d.o u.o H.o
 clear P HV d j u H HP O U HA af aq
 have P:=ya hB;have HA:=ya hA;have af:=ya X;have aq:=ap
 have HV:Hid (VE F [w.heap.size,w.heap.size+2,f.heap.size] cp [y,B,D,c3,c4,Q,Y,E] [Z,a7,ac,e3,e4,e5,e6,e7]):=ya (by
  obtain ⟨v0,v1,v2,v3,v4,v5,v6,v7,_⟩:=hV
  exact ⟨v0,v1,hE,v3,v4,v5,v6,v7,trivial⟩)
 clear hB hA X hV hE
 have HP:Hid (.string dn::(Ad dz++(y++(B++(D++(c3++(c4++(Q++(Y++(E)))))))))=(.string dn::(Ad dz++(y++(B++(D)))))++((c3)++(c4++(Q++(Y++(E)))))):=ya (by first|rfl|simp[yg])
 have O:=ya (P.o.part HP.o (off:=21) (by simp[A9,T.o,ae.o,ap.o]))
 obtain ⟨l0,l1,l2,l3⟩:=P.o.scope HS.o.cells
 obtain ⟨v0,v1,v2,v3,v4,v5,v6,v7,_⟩:=HV.o
 have U:=ya (BD (F:=FL F [w.heap.size,w.heap.size+2,f.heap.size]) (HS.o.lets.up P.o.below) v3 (Br HF.o P.o (by have h1:=P.o.size;have h2:=(yd.1 HA.o).1;intro k hk;simp at hk;omega)))
 generalize hq:Dp t.lets e3=q4 at U
 generalize hm:BR t.lets e3=m4 at U
 have cz:=ya hq;have gz:=ya hm
 clear hq hm v0 v1 v2 v3 v4 v5 v6 v7
 go_upto_region 19 with (first
  |(refine yf rfl 26 _ rfl w.heap.size 21 rfl c3 _ O.o qF rfl (AE bg.o) ?_)
  |(go_at_call 87;refine U.o.mono ?_;rintro e ij ⟨S,ag,rfl,C,G,M⟩;have d:=ya C;have b9:=ya G;have j:=ya M;have aw:=ya C.len;clear C G M)
  |(refine A2 rfl 26 _ _ rfl (f.heap.size) rfl S rfl (Bl j.o HA.o) (by rw[yp,aq.o,d.o.len]) (AE d.o.len) (A8 d.o) ?_;intro he ar;have u:=ya ar;clear ar)
  |(refine yf rfl 26 _ rfl (f.heap.size) 0 rfl S _ (A6 u.o.row) qF rfl (AE d.o.len) ?_)
  |(refine A7 rfl 26 _ _ rfl w.heap.size 21 rfl S rfl (p:=(.string dn::(Ad dz++(y++(B++(D)))))) (m:=(c3)) (q:=(c4++(Q++(Y++(E))))) (t:=51) (Di P.o j.o af.o u.o HP.o) (by simp[A9,T.o,ae.o,ap.o]) (by rw[bg.o,aw.o]) (AE d.o.len) (A8 d.o) ?_;intro bw I;have H:Hid (AB he bw w.heap.size (.string dn::(Ad dz++(y++(B++(D++(S++(c4++(Q++(Y++(E)))))))))) 51):=ya (by simpa[yg] using I);clear I)
  |(refine Ae b3 rfl _ rfl rfl ?_)
  |(refine Ak (g:=b3) rfl _ _ _ rfl rfl (.bool (b3&&q4)) (by cases b3<;>rfl) ?_;generalize s:(b3&&q4)=b4;have ax:=ya s;clear s)
  |(refine Ab (g:=b3) z7 rfl ?_;simp only[CW,Aa])
  |(refine Ab (g:=b3) (Av b3) rfl ?_;simp only[CW,Aa])
  |(rw[AD b3 (q4)];generalize s:(b3&&q4)=b4;have ax:=ya s;clear s))
 clear l0 l1 l2 l3
 obtain ⟨hB,hA,X,hV,hE⟩:=Ca P.o HV.o (by simp) (by simp) af.o HA.o j.o d.o u.o H.o
 clear P HV d j u H HP O U HA af aq
 have P:=ya hB;have HA:=ya hA;have af:=ya X;have aq:=aw
 have HV:Hid (VE F [w.heap.size,w.heap.size+2,f.heap.size] bw [y,B,D,S,c4,Q,Y,E] [Z,a7,ac,ag,e4,e5,e6,e7]):=ya (by
  obtain ⟨v0,v1,v2,v3,v4,v5,v6,v7,_⟩:=hV
  exact ⟨v0,v1,v2,hE,v4,v5,v6,v7,trivial⟩)
 clear hB hA X hV hE
 obtain ⟨p,hp⟩:∃p:LV,p=.string dn::(Ad dz++(y++(B++(D++(S))))):=⟨_,rfl⟩
 have au:Hid (p.length=27):=ya (by rw[hp];exact (by simp[A9,T.o,ae.o,ap.o,aw.o]))
 have d7:=ya hp
 have l:Hid (J2 w ls F [w.heap.size,w.heap.size+2,f.heap.size] f.heap.size p [y,B,D,S] [Z,a7,ac,ag] c4 Q Y E e4 e5 e6 e7 bw):=ya (by
  refine ⟨_,?_,HA.o,aq.o,af.o,HV.o⟩
  have h:=P.o
  rw[hp]
  simpa[yg] using h)
 clear P HV HA aq af hp
 obtain ⟨bk,ai⟩:∃z:Bool,z=b4:=⟨_,rfl⟩
 rw[<-ai]
 rw[<-ai] at ax
 clear ai
 go_wp2
 go_loopw [8,13] (fun v8 kv wr=>∃b:Bool,v8=.bool b∧((kv=iV 0∧Hid (∃ca,J2 w ls F [w.heap.size,w.heap.size+2,f.heap.size] f.heap.size p [y,B,D,S] [Z,a7,ac,ag] c4 Q Y E e4 e5 e6 e7 wr∧ca=b∧b=bk))∨(kv=iV 1∧Hid (∃x4 x6 y4 y6,J2 w ls F [w.heap.size,w.heap.size+2,f.heap.size] f.heap.size p [y,B,D,S] [Z,a7,ac,ag] x4 Q x6 E y4 e5 y6 e7 wr∧b=((bk&&Dp t.lets e4)&&Dp t.lets e6)∧(b=true->y4=BR t.lets e4∧y6=BR t.lets e6)))∨(kv=iV 2∧Hid (∃x4 x5 x6 x7 y4 y5 y6 y7,J2 w ls F [w.heap.size,w.heap.size+2,f.heap.size] f.heap.size p [y,B,D,S] [Z,a7,ac,ag] x4 x5 x6 x7 y4 y5 y6 y7 wr∧b=((((bk&&Dp t.lets e4)&&Dp t.lets e6)&&Dp t.lets e5)&&Dp t.lets e7)∧(b=true->y4=BR t.lets e4∧y5=BR t.lets e5∧y6=BR t.lets e6∧y7=BR t.lets e7))))) (fun _ kv _=>2 - (intOf kv).toNat)
 case atStart=>exact ⟨bk,rfl,.inl ⟨rfl,ya ⟨bk,l.o,rfl,rfl⟩⟩⟩
 case round=>
  clear l
  obtain ⟨b,rfl,⟨rfl,cl⟩|⟨rfl,df⟩|⟨rfl,cj⟩⟩:=hrel
  ·obtain ⟨_,hJ,_,ai⟩:=cl.o
   have l:=ya hJ;have b5:=ya ai
   clear cl hJ ai
   obtain ⟨dc,bj⟩:∃ca:LV,Ke w ls F [w.heap.size,w.heap.size+2,f.heap.size] f.heap.size p [y,B,D,S] [Z,a7,ac,ag] c4 Q Y E e4 e5 e6 e7 ca wr:=l.o
   replace l:=ya bj
   clear bj
   have co:Hid (p++(c4++(Q++(Y++(E))))=(p)++(c4++(Q++(Y++(E))))):=ya (by simp)
   obtain ⟨t0,t1,t2,t3,s0,s1,s2,s3,_⟩:=l.o.ve
   have L:=ya s0.len;have R:=ya s1.len;have a6:=ya s2.len;have ah:=ya s3.len
   have O:=ya (l.o.bx.part co.o (off:=27) (by simp[au.o]))
   obtain ⟨l0,l1,l2,l3⟩:=l.o.bx.scope HS.o.cells
   have U:=ya (BD (F:=FL F [w.heap.size,w.heap.size+2,f.heap.size]) (HS.o.lets.up (l.o.bx.below.trans ((yc _ _).drew.mono l.o.bx.below.size))) (s0.fl (l':=[w.heap.size,w.heap.size+2,f.heap.size]) (AP.below (yc _ _).drew) (fun k hk=>.inl hk)) (Br (W:=wr.drew) HF.o (l.o.bx.up (yc _ _).drew) (by have h1:=l.o.bx.size;have h2:=(yd.1 l.o.a).1;intro k hk;simp at hk ⊢;omega)))
   generalize hq:Dp t.lets e4=g1 at U
   generalize hm:BR t.lets e4=ir at U
   have im:=ya hq;have f8:=ya hm
   clear hq hm t0 t1 t2 t3 s0 s1 s2 s3
   go_upto_region 22 with fail
   have A:Hid (Below wr.heap.size wr wr.drew):=ya (yc _ _).drew
   refine wp_region_noPanic ?_
   refine Bz (by kernel_rfl) (fun V=>Below wr.heap.size wr V) 10 ?_
   refine A0 (i:=0) (v:=iV 0) rfl (by kernel_rfl) (by kernel_rfl) (by kernel_rfl) (fun _ _ _ h=>h) (by kernel_rfl) (Or.inl ⟨by rfl,?_⟩) (fun _=>A.o) ?_
   ·intro w _;go_simp
   refine A0 (i:=1) (v:=pV w.heap.size 27) rfl (by kernel_rfl) (by kernel_rfl) (by kernel_rfl) (fun _ _ _ h=>h) (by kernel_rfl) (Or.inl ⟨by rfl,?_⟩) (fun _=>A.o) ?_
   ·intro w _;go_simp
   refine A0 (i:=2) (v:=pV w.heap.size 27) rfl (by kernel_rfl) (by kernel_rfl) (by kernel_rfl) (fun _ _ _ h=>h) (by kernel_rfl) (Or.inl ⟨by rfl,?_⟩) (fun _=>A.o) ?_
   ·intro w _;go_simp
   refine Ag (i:=3) (v:=.agg (c4).toArray) rfl (by kernel_rfl) (by kernel_rfl) (by kernel_rfl) (fun _ _ _ h=>h) (by kernel_rfl) (yS (by rfl) 26 _ rfl (w.heap.size) (27) rfl (c4) _ (fun W hW=>A1 O.o (hW.block _ (by have:=l.o.bx.size;omega))) qF rfl (AE L.o)) A.o ?_
   refine A0 (i:=4) (v:=pV (w.heap.size+1) 0) rfl (by kernel_rfl) (by kernel_rfl) (by kernel_rfl) (fun _ _ _ h=>h) (by kernel_rfl) (Or.inl ⟨by rfl,?_⟩) (fun _=>A.o) ?_
   ·intro w _;go_simp
   refine Ag (i:=5) (v:=.slice h0.a h0.n h0.c) rfl (by kernel_rfl) (by kernel_rfl) (by kernel_rfl) (fun _ _ _ h=>h) (by kernel_rfl) (Or.inl ⟨by rfl,?_⟩) A.o ?_
   ·intro W hW
    have hc:W.cell? (aV (w.heap.size+1) 0)=some (.slice h0.a h0.n h0.c):=(hW.cell (p:=(aV (w.heap.size+1) 0)) (by have:=l.o.bx.size;simp only;omega)).trans l0
    clear hW
    go_simp
   refine A4 (i:=6) (by kernel_rfl) rfl (fun K hK=>?_)
   go_simp
   refine U.o.mono ?_
   rintro e u1 ⟨a0,b7,rfl,C,G,M⟩
   have d:=ya C;have bb:=ya G
   have j:Hid (Below wr.heap.size wr u1):=ya ((yc _ _).drew.trans M)
   clear C G M
   refine hK.o _ _ (fun _=>j.o) ?_
   clear hK K
   refine A0 (i:=7) (v:=.tuple #[.agg (a0).toArray,.bool g1]) rfl (by kernel_rfl) (by kernel_rfl) (by kernel_rfl) (fun _ _ _ h=>h) (by kernel_rfl) (Or.inl ⟨by rfl,?_⟩) (fun _=>j.o) ?_
   ·intro w _;go_simp
   refine A0 (i:=8) (v:=.agg (a0).toArray) rfl (by kernel_rfl) (by kernel_rfl) (by kernel_rfl) (fun _ _ _ h=>h) (by kernel_rfl) (Or.inl ⟨by rfl,?_⟩) (fun _=>j.o) ?_
   ·intro w _;go_simp
   refine A0 (i:=9) (v:=.bool g1) rfl (by kernel_rfl) (by kernel_rfl) (by kernel_rfl) (fun _ _ _ h=>h) (by kernel_rfl) (Or.inl ⟨by rfl,?_⟩) (fun _=>j.o) ?_
   ·intro w _;go_simp
   have aa:Hid (u1.heap[f.heap.size]?=some (.cells ([]++(dc++[])).toArray 26 (0,0))):=ya (by simpa using Bl j.o l.o.a)
   refine A4 (i:=10) (by kernel_rfl) rfl (fun K hK=>?_)
   rw[yu (by rfl)]
   refine zh 26 _ _ rfl (f.heap.size) 0 (a0).toArray rfl rfl (Be aa.o (by simp[d.o.len,l.o.la])) (by rw[yp];exact AE d.o.len) (yy (A8 d.o)) ?_
   have u:=ya (Aw (f.heap.size) 26 (a0) 0 u1 [] dc [] aa.o rfl (by rw[d.o.len,l.o.la]))
   rw[yE,yG] at u
   refine hK.o _ _ (by intro h;cases h) ?_
   clear hK K
   obtain ⟨gg,ad⟩:∃z:World,z=u1.setCells (f.heap.size) 0 (a0):=⟨_,rfl⟩
   rw[yN,<-ad]
   rw[<-ad] at u
   clear ad
   refine A4 (i:=11) (by kernel_rfl) rfl (fun K hK=>?_)
   go_simp
   refine hK.o _ _ (by intro h;cases h) ?_
   clear hK K
   refine AG (by kernel_rfl) ?_
   refine NoPanic.normal ?_
   have N:=ya d.o.len
   have aj:=ya (A8 d.o)
   go_upto_region 25 with (first
    |(refine yf rfl 26 _ rfl (f.heap.size) 0 rfl a0 _ (A6 u.o.row) qF rfl (AE N.o) ?_)
    |(refine A7 rfl 26 _ _ rfl w.heap.size 27 rfl a0 rfl (p:=p) (m:=c4) (q:=Q++(Y++(E))) (t:=51) (Di l.o.bx j.o l.o.lA u.o co.o) (by simp[au.o]) (by rw[L.o,N.o]) (AE N.o) aj.o ?_;intro ak I;have H:Hid (AB gg ak w.heap.size (p++(a0++(Q++(Y++(E))))) 51):=ya (by simpa[yg] using I);clear I)
    |(refine Ae b rfl _ rfl rfl ?_)
    |(refine Ak (g:=b) rfl _ _ _ rfl rfl (.bool (b&&g1)) (by cases b<;>rfl) ?_;generalize s:(b&&g1)=J;have ab:=ya s;clear s)
    |(refine Ab (g:=b) z7 rfl ?_;simp only[CW,Aa])
    |(refine Ab (g:=b) (Av b) rfl ?_;simp only[CW,Aa])
    |(rw[AD b g1];generalize s:(b&&g1)=J;have ab:=ya s;clear s))
   have hu:=Ca l.o.bx l.o.ve (by simp) (by simp) l.o.lA l.o.a j.o d.o u.o H.o
   have al:Hid (J2 w ls F [w.heap.size,w.heap.size+2,f.heap.size] f.heap.size p [y,B,D,S] [Z,a7,ac,ag] a0 Q Y E b7 e5 e6 e7 ak):=ya (by
    obtain ⟨hB,hA,X,hV,hE⟩:=hu
    obtain ⟨t0,t1,t2,t3,s0,s1,s2,s3,_⟩:=hV
    exact ⟨a0,hB,hA,N.o,X,⟨t0,t1,t2,t3,hE,s1,s2,s3,trivial⟩⟩)
   clear hu l j d u H aa U O A l0 l1 l2 l3 L R a6 ah N aj
   have l:=al
   clear al
   obtain ⟨cc,bh⟩:∃ca:LV,Ke w ls F [w.heap.size,w.heap.size+2,f.heap.size] f.heap.size p [y,B,D,S] [Z,a7,ac,ag] a0 Q Y E b7 e5 e6 e7 ca ak:=l.o
   replace l:=ya bh
   clear bh
   have cd:Hid (p++(a0++(Q++(Y++(E))))=(p++(a0++(Q)))++(Y++(E))):=ya (by simp[yg])
   obtain ⟨t0,t1,t2,t3,s0,s1,s2,s3,_⟩:=l.o.ve
   have L:=ya s0.len;have R:=ya s1.len;have a6:=ya s2.len;have ah:=ya s3.len
   have O:=ya (l.o.bx.part cd.o (off:=39) (by simp[au.o,L.o,R.o]))
   obtain ⟨l0,l1,l2,l3⟩:=l.o.bx.scope HS.o.cells
   have U:=ya (BD (F:=FL F [w.heap.size,w.heap.size+2,f.heap.size]) (HS.o.lets.up (l.o.bx.below.trans ((yc _ _).drew.mono l.o.bx.below.size))) (s2.fl (l':=[w.heap.size,w.heap.size+2,f.heap.size]) (AP.below (yc _ _).drew) (fun k hk=>.inl hk)) (Br (W:=ak.drew) HF.o (l.o.bx.up (yc _ _).drew) (by have h1:=l.o.bx.size;have h2:=(yd.1 l.o.a).1;intro k hk;simp at hk ⊢;omega)))
   generalize hq:Dp t.lets e6=g2 at U
   generalize hm:BR t.lets e6=ip at U
   have ic:=ya hq;have fu:=ya hm
   clear hq hm t0 t1 t2 t3 s0 s1 s2 s3
   go_upto_region 25 with fail
   have A:Hid (Below ak.heap.size ak ak.drew):=ya (yc _ _).drew
   refine wp_region_noPanic ?_
   refine Bz (by kernel_rfl) (fun V=>Below ak.heap.size ak V) 10 ?_
   refine A0 (i:=0) (v:=iV 0) rfl (by kernel_rfl) (by kernel_rfl) (by kernel_rfl) (fun _ _ _ h=>h) (by kernel_rfl) (Or.inl ⟨by rfl,?_⟩) (fun _=>A.o) ?_
   ·intro w _;go_simp
   refine A0 (i:=1) (v:=pV w.heap.size 39) rfl (by kernel_rfl) (by kernel_rfl) (by kernel_rfl) (fun _ _ _ h=>h) (by kernel_rfl) (Or.inl ⟨by rfl,?_⟩) (fun _=>A.o) ?_
   ·intro w _;go_simp
   refine A0 (i:=2) (v:=pV w.heap.size 39) rfl (by kernel_rfl) (by kernel_rfl) (by kernel_rfl) (fun _ _ _ h=>h) (by kernel_rfl) (Or.inl ⟨by rfl,?_⟩) (fun _=>A.o) ?_
   ·intro w _;go_simp
   refine Ag (i:=3) (v:=.agg (Y).toArray) rfl (by kernel_rfl) (by kernel_rfl) (by kernel_rfl) (fun _ _ _ h=>h) (by kernel_rfl) (yS (by rfl) 26 _ rfl (w.heap.size) (39) rfl (Y) _ (fun W hW=>A1 O.o (hW.block _ (by have:=l.o.bx.size;omega))) qF rfl (AE a6.o)) A.o ?_
   refine A0 (i:=4) (v:=pV (w.heap.size+1) 0) rfl (by kernel_rfl) (by kernel_rfl) (by kernel_rfl) (fun _ _ _ h=>h) (by kernel_rfl) (Or.inl ⟨by rfl,?_⟩) (fun _=>A.o) ?_
   ·intro w _;go_simp
   refine Ag (i:=5) (v:=.slice h0.a h0.n h0.c) rfl (by kernel_rfl) (by kernel_rfl) (by kernel_rfl) (fun _ _ _ h=>h) (by kernel_rfl) (Or.inl ⟨by rfl,?_⟩) A.o ?_
   ·intro W hW
    have hc:W.cell? (aV (w.heap.size+1) 0)=some (.slice h0.a h0.n h0.c):=(hW.cell (p:=(aV (w.heap.size+1) 0)) (by have:=l.o.bx.size;simp only;omega)).trans l0
    clear hW
    go_simp
   refine A4 (i:=6) (by kernel_rfl) rfl (fun K hK=>?_)
   go_simp
   refine U.o.mono ?_
   rintro e u2 ⟨am,dl,rfl,C,G,M⟩
   have d:=ya C;have ba:=ya G
   have j:Hid (Below ak.heap.size ak u2):=ya ((yc _ _).drew.trans M)
   clear C G M
   refine hK.o _ _ (fun _=>j.o) ?_
   clear hK K
   refine A0 (i:=7) (v:=.tuple #[.agg (am).toArray,.bool g2]) rfl (by kernel_rfl) (by kernel_rfl) (by kernel_rfl) (fun _ _ _ h=>h) (by kernel_rfl) (Or.inl ⟨by rfl,?_⟩) (fun _=>j.o) ?_
   ·intro w _;go_simp
   refine A0 (i:=8) (v:=.agg (am).toArray) rfl (by kernel_rfl) (by kernel_rfl) (by kernel_rfl) (fun _ _ _ h=>h) (by kernel_rfl) (Or.inl ⟨by rfl,?_⟩) (fun _=>j.o) ?_
   ·intro w _;go_simp
   refine A0 (i:=9) (v:=.bool g2) rfl (by kernel_rfl) (by kernel_rfl) (by kernel_rfl) (fun _ _ _ h=>h) (by kernel_rfl) (Or.inl ⟨by rfl,?_⟩) (fun _=>j.o) ?_
   ·intro w _;go_simp
   have aa:Hid (u2.heap[f.heap.size]?=some (.cells ([]++(cc++[])).toArray 26 (0,0))):=ya (by simpa using Bl j.o l.o.a)
   refine A4 (i:=10) (by kernel_rfl) rfl (fun K hK=>?_)
   rw[yu (by rfl)]
   refine zh 26 _ _ rfl (f.heap.size) 0 (am).toArray rfl rfl (Be aa.o (by simp[d.o.len,l.o.la])) (by rw[yp];exact AE d.o.len) (yy (A8 d.o)) ?_
   have u:=ya (Aw (f.heap.size) 26 (am) 0 u2 [] cc [] aa.o rfl (by rw[d.o.len,l.o.la]))
   rw[yE,yG] at u
   refine hK.o _ _ (by intro h;cases h) ?_
   clear hK K
   obtain ⟨f7,ad⟩:∃z:World,z=u2.setCells (f.heap.size) 0 (am):=⟨_,rfl⟩
   rw[yN,<-ad]
   rw[<-ad] at u
   clear ad
   refine A4 (i:=11) (by kernel_rfl) rfl (fun K hK=>?_)
   go_simp
   refine hK.o _ _ (by intro h;cases h) ?_
   clear hK K
   refine AG (by kernel_rfl) ?_
   refine NoPanic.normal ?_
   have N:=ya d.o.len
   have aj:=ya (A8 d.o)
   go_wp2_with (first
    |(refine yf rfl 26 _ rfl (f.heap.size) 0 rfl am _ (A6 u.o.row) qF rfl (AE N.o) ?_)
    |(refine A7 rfl 26 _ _ rfl w.heap.size 39 rfl am rfl (p:=p++(a0++(Q))) (m:=Y) (q:=E) (t:=51) (Di l.o.bx j.o l.o.lA u.o cd.o) (by simp[au.o,L.o,R.o]) (by rw[a6.o,N.o]) (AE N.o) aj.o ?_;intro ce I;have H:Hid (AB f7 ce w.heap.size (p++(a0++(Q++(am++(E))))) 51):=ya (by simpa[yg] using I);clear I)
    |(refine Ae J rfl _ rfl rfl ?_)
    |(refine Ak (g:=J) rfl _ _ _ rfl rfl (.bool (J&&g2)) (by cases J<;>rfl) ?_;generalize s:(J&&g2)=ay;have a8:=ya s;clear s)
    |(refine Ab (g:=J) z7 rfl ?_;simp only[CW,Aa])
    |(refine Ab (g:=J) (Av J) rfl ?_;simp only[CW,Aa])
    |(rw[AD J g2];generalize s:(J&&g2)=ay;have a8:=ya s;clear s))
   have hu:=Ca l.o.bx l.o.ve (by simp) (by simp) l.o.lA l.o.a j.o d.o u.o H.o
   have al:Hid (J2 w ls F [w.heap.size,w.heap.size+2,f.heap.size] f.heap.size p [y,B,D,S] [Z,a7,ac,ag] a0 Q am E b7 e5 dl e7 ce):=ya (by
    obtain ⟨hB,hA,X,hV,hE⟩:=hu
    obtain ⟨t0,t1,t2,t3,s0,s1,s2,s3,_⟩:=hV
    exact ⟨am,hB,hA,N.o,X,⟨t0,t1,t2,t3,s0,s1,hE,s3,trivial⟩⟩)
   clear hu l j d u H aa U O A l0 l1 l2 l3 L R a6 ah N aj
   have l:=al
   clear al
   refine ⟨⟨ay,rfl,.inr (.inl ⟨rfl,ya ⟨a0,am,b7,dl,l.o,?_,?_⟩⟩)⟩,by simp[intOf]⟩
   ·simp only[<-a8.o,<-ab.o,b5.o,ic.o]
   ·intro hb
    rw[<-a8.o,<-ab.o] at hb
    simp only[ym] at hb
    exact ⟨(by first|exact (bb.o hb.1.2).trans f8.o.symm|exact bb.o hb.1.2),(by first|exact (ba.o hb.2).trans fu.o.symm|exact ba.o hb.2)⟩
  ·obtain ⟨x4,x6,y4,y6,hJ,ai,az⟩:=df.o
   have l:=ya hJ;have b5:=ya ai;have bt:=ya az
   clear df hJ ai az
   obtain ⟨dv,bs⟩:∃ca:LV,Ke w ls F [w.heap.size,w.heap.size+2,f.heap.size] f.heap.size p [y,B,D,S] [Z,a7,ac,ag] x4 Q x6 E y4 e5 y6 e7 ca wr:=l.o
   replace l:=ya bs
   clear bs
   have cw:Hid (p++(x4++(Q++(x6++(E))))=(p++(x4))++(Q++(x6++(E)))):=ya (by simp[yg])
   obtain ⟨t0,t1,t2,t3,s0,s1,s2,s3,_⟩:=l.o.ve
   have L:=ya s0.len;have R:=ya s1.len;have a6:=ya s2.len;have ah:=ya s3.len
   have O:=ya (l.o.bx.part cw.o (off:=33) (by simp[au.o,L.o]))
   obtain ⟨l0,l1,l2,l3⟩:=l.o.bx.scope HS.o.cells
   have U:=ya (BD (F:=FL F [w.heap.size,w.heap.size+2,f.heap.size]) (HS.o.lets.up (l.o.bx.below.trans ((yc _ _).drew.mono l.o.bx.below.size))) (s1.fl (l':=[w.heap.size,w.heap.size+2,f.heap.size]) (AP.below (yc _ _).drew) (fun k hk=>.inl hk)) (Br (W:=wr.drew) HF.o (l.o.bx.up (yc _ _).drew) (by have h1:=l.o.bx.size;have h2:=(yd.1 l.o.a).1;intro k hk;simp at hk ⊢;omega)))
   generalize hq:Dp t.lets e5=g3 at U
   generalize hm:BR t.lets e5=iq at U
   have it:=ya hq;have ge:=ya hm
   clear hq hm t0 t1 t2 t3 s0 s1 s2 s3
   go_upto_region 22 with fail
   have A:Hid (Below wr.heap.size wr wr.drew):=ya (yc _ _).drew
   refine wp_region_noPanic ?_
   refine Bz (by kernel_rfl) (fun V=>Below wr.heap.size wr V) 10 ?_
   refine A0 (i:=0) (v:=iV 1) rfl (by kernel_rfl) (by kernel_rfl) (by kernel_rfl) (fun _ _ _ h=>h) (by kernel_rfl) (Or.inl ⟨by rfl,?_⟩) (fun _=>A.o) ?_
   ·intro w _;go_simp
   refine A0 (i:=1) (v:=pV w.heap.size 27) rfl (by kernel_rfl) (by kernel_rfl) (by kernel_rfl) (fun _ _ _ h=>h) (by kernel_rfl) (Or.inl ⟨by rfl,?_⟩) (fun _=>A.o) ?_
   ·intro w _;go_simp
   refine A0 (i:=2) (v:=pV w.heap.size 33) rfl (by kernel_rfl) (by kernel_rfl) (by kernel_rfl) (fun _ _ _ h=>h) (by kernel_rfl) (Or.inl ⟨by rfl,?_⟩) (fun _=>A.o) ?_
   ·intro w _;go_simp
   refine Ag (i:=3) (v:=.agg (Q).toArray) rfl (by kernel_rfl) (by kernel_rfl) (by kernel_rfl) (fun _ _ _ h=>h) (by kernel_rfl) (yS (by rfl) 26 _ rfl (w.heap.size) (33) rfl (Q) _ (fun W hW=>A1 O.o (hW.block _ (by have:=l.o.bx.size;omega))) qF rfl (AE R.o)) A.o ?_
   refine A0 (i:=4) (v:=pV (w.heap.size+1) 0) rfl (by kernel_rfl) (by kernel_rfl) (by kernel_rfl) (fun _ _ _ h=>h) (by kernel_rfl) (Or.inl ⟨by rfl,?_⟩) (fun _=>A.o) ?_
   ·intro w _;go_simp
   refine Ag (i:=5) (v:=.slice h0.a h0.n h0.c) rfl (by kernel_rfl) (by kernel_rfl) (by kernel_rfl) (fun _ _ _ h=>h) (by kernel_rfl) (Or.inl ⟨by rfl,?_⟩) A.o ?_
   ·intro W hW
    have hc:W.cell? (aV (w.heap.size+1) 0)=some (.slice h0.a h0.n h0.c):=(hW.cell (p:=(aV (w.heap.size+1) 0)) (by have:=l.o.bx.size;simp only;omega)).trans l0
    clear hW
    go_simp
   refine A4 (i:=6) (by kernel_rfl) rfl (fun K hK=>?_)
   go_simp
   refine U.o.mono ?_
   rintro e u3 ⟨a2,bd,rfl,C,G,M⟩
   have d:=ya C;have b8:=ya G
   have j:Hid (Below wr.heap.size wr u3):=ya ((yc _ _).drew.trans M)
   clear C G M
   refine hK.o _ _ (fun _=>j.o) ?_
   clear hK K
   refine A0 (i:=7) (v:=.tuple #[.agg (a2).toArray,.bool g3]) rfl (by kernel_rfl) (by kernel_rfl) (by kernel_rfl) (fun _ _ _ h=>h) (by kernel_rfl) (Or.inl ⟨by rfl,?_⟩) (fun _=>j.o) ?_
   ·intro w _;go_simp
   refine A0 (i:=8) (v:=.agg (a2).toArray) rfl (by kernel_rfl) (by kernel_rfl) (by kernel_rfl) (fun _ _ _ h=>h) (by kernel_rfl) (Or.inl ⟨by rfl,?_⟩) (fun _=>j.o) ?_
   ·intro w _;go_simp
   refine A0 (i:=9) (v:=.bool g3) rfl (by kernel_rfl) (by kernel_rfl) (by kernel_rfl) (fun _ _ _ h=>h) (by kernel_rfl) (Or.inl ⟨by rfl,?_⟩) (fun _=>j.o) ?_
   ·intro w _;go_simp
   have aa:Hid (u3.heap[f.heap.size]?=some (.cells ([]++(dv++[])).toArray 26 (0,0))):=ya (by simpa using Bl j.o l.o.a)
   refine A4 (i:=10) (by kernel_rfl) rfl (fun K hK=>?_)
   rw[yu (by rfl)]
   refine zh 26 _ _ rfl (f.heap.size) 0 (a2).toArray rfl rfl (Be aa.o (by simp[d.o.len,l.o.la])) (by rw[yp];exact AE d.o.len) (yy (A8 d.o)) ?_
   have u:=ya (Aw (f.heap.size) 26 (a2) 0 u3 [] dv [] aa.o rfl (by rw[d.o.len,l.o.la]))
   rw[yE,yG] at u
   refine hK.o _ _ (by intro h;cases h) ?_
   clear hK K
   obtain ⟨ew,ad⟩:∃z:World,z=u3.setCells (f.heap.size) 0 (a2):=⟨_,rfl⟩
   rw[yN,<-ad]
   rw[<-ad] at u
   clear ad
   refine A4 (i:=11) (by kernel_rfl) rfl (fun K hK=>?_)
   go_simp
   refine hK.o _ _ (by intro h;cases h) ?_
   clear hK K
   refine AG (by kernel_rfl) ?_
   refine NoPanic.normal ?_
   have N:=ya d.o.len
   have aj:=ya (A8 d.o)
   go_upto_region 25 with (first
    |(refine yf rfl 26 _ rfl (f.heap.size) 0 rfl a2 _ (A6 u.o.row) qF rfl (AE N.o) ?_)
    |(refine A7 rfl 26 _ _ rfl w.heap.size 33 rfl a2 rfl (p:=p++(x4)) (m:=Q) (q:=x6++(E)) (t:=51) (Di l.o.bx j.o l.o.lA u.o cw.o) (by simp[au.o,L.o]) (by rw[R.o,N.o]) (AE N.o) aj.o ?_;intro an I;have H:Hid (AB ew an w.heap.size (p++(x4++(a2++(x6++(E))))) 51):=ya (by simpa[yg] using I);clear I)
    |(refine Ae b rfl _ rfl rfl ?_)
    |(refine Ak (g:=b) rfl _ _ _ rfl rfl (.bool (b&&g3)) (by cases b<;>rfl) ?_;generalize s:(b&&g3)=J;have ab:=ya s;clear s)
    |(refine Ab (g:=b) z7 rfl ?_;simp only[CW,Aa])
    |(refine Ab (g:=b) (Av b) rfl ?_;simp only[CW,Aa])
    |(rw[AD b g3];generalize s:(b&&g3)=J;have ab:=ya s;clear s))
   have hu:=Ca l.o.bx l.o.ve (by simp) (by simp) l.o.lA l.o.a j.o d.o u.o H.o
   have al:Hid (J2 w ls F [w.heap.size,w.heap.size+2,f.heap.size] f.heap.size p [y,B,D,S] [Z,a7,ac,ag] x4 a2 x6 E y4 bd y6 e7 an):=ya (by
    obtain ⟨hB,hA,X,hV,hE⟩:=hu
    obtain ⟨t0,t1,t2,t3,s0,s1,s2,s3,_⟩:=hV
    exact ⟨a2,hB,hA,N.o,X,⟨t0,t1,t2,t3,s0,hE,s2,s3,trivial⟩⟩)
   clear hu l j d u H aa U O A l0 l1 l2 l3 L R a6 ah N aj
   have l:=al
   clear al
   obtain ⟨cv,be⟩:∃ca:LV,Ke w ls F [w.heap.size,w.heap.size+2,f.heap.size] f.heap.size p [y,B,D,S] [Z,a7,ac,ag] x4 a2 x6 E y4 bd y6 e7 ca an:=l.o
   replace l:=ya be
   clear be
   have ea:Hid (p++(x4++(a2++(x6++(E))))=(p++(x4++(a2++(x6))))++(E++([]))):=ya (by simp[yg])
   obtain ⟨t0,t1,t2,t3,s0,s1,s2,s3,_⟩:=l.o.ve
   have L:=ya s0.len;have R:=ya s1.len;have a6:=ya s2.len;have ah:=ya s3.len
   have O:=ya (l.o.bx.part ea.o (off:=45) (by simp[au.o,L.o,R.o,a6.o]))
   obtain ⟨l0,l1,l2,l3⟩:=l.o.bx.scope HS.o.cells
   have U:=ya (BD (F:=FL F [w.heap.size,w.heap.size+2,f.heap.size]) (HS.o.lets.up (l.o.bx.below.trans ((yc _ _).drew.mono l.o.bx.below.size))) (s3.fl (l':=[w.heap.size,w.heap.size+2,f.heap.size]) (AP.below (yc _ _).drew) (fun k hk=>.inl hk)) (Br (W:=an.drew) HF.o (l.o.bx.up (yc _ _).drew) (by have h1:=l.o.bx.size;have h2:=(yd.1 l.o.a).1;intro k hk;simp at hk ⊢;omega)))
   generalize hq:Dp t.lets e7=g4 at U
   generalize hm:BR t.lets e7=il at U
   have hz:=ya hq;have i8:=ya hm
   clear hq hm t0 t1 t2 t3 s0 s1 s2 s3
   go_upto_region 25 with fail
   have A:Hid (Below an.heap.size an an.drew):=ya (yc _ _).drew
   refine wp_region_noPanic ?_
   refine Bz (by kernel_rfl) (fun V=>Below an.heap.size an V) 10 ?_
   refine A0 (i:=0) (v:=iV 1) rfl (by kernel_rfl) (by kernel_rfl) (by kernel_rfl) (fun _ _ _ h=>h) (by kernel_rfl) (Or.inl ⟨by rfl,?_⟩) (fun _=>A.o) ?_
   ·intro w _;go_simp
   refine A0 (i:=1) (v:=pV w.heap.size 39) rfl (by kernel_rfl) (by kernel_rfl) (by kernel_rfl) (fun _ _ _ h=>h) (by kernel_rfl) (Or.inl ⟨by rfl,?_⟩) (fun _=>A.o) ?_
   ·intro w _;go_simp
   refine A0 (i:=2) (v:=pV w.heap.size 45) rfl (by kernel_rfl) (by kernel_rfl) (by kernel_rfl) (fun _ _ _ h=>h) (by kernel_rfl) (Or.inl ⟨by rfl,?_⟩) (fun _=>A.o) ?_
   ·intro w _;go_simp
   refine Ag (i:=3) (v:=.agg (E).toArray) rfl (by kernel_rfl) (by kernel_rfl) (by kernel_rfl) (fun _ _ _ h=>h) (by kernel_rfl) (yS (by rfl) 26 _ rfl (w.heap.size) (45) rfl (E) _ (fun W hW=>A1 O.o (hW.block _ (by have:=l.o.bx.size;omega))) qF rfl (AE ah.o)) A.o ?_
   refine A0 (i:=4) (v:=pV (w.heap.size+1) 0) rfl (by kernel_rfl) (by kernel_rfl) (by kernel_rfl) (fun _ _ _ h=>h) (by kernel_rfl) (Or.inl ⟨by rfl,?_⟩) (fun _=>A.o) ?_
   ·intro w _;go_simp
   refine Ag (i:=5) (v:=.slice h0.a h0.n h0.c) rfl (by kernel_rfl) (by kernel_rfl) (by kernel_rfl) (fun _ _ _ h=>h) (by kernel_rfl) (Or.inl ⟨by rfl,?_⟩) A.o ?_
   ·intro W hW
    have hc:W.cell? (aV (w.heap.size+1) 0)=some (.slice h0.a h0.n h0.c):=(hW.cell (p:=(aV (w.heap.size+1) 0)) (by have:=l.o.bx.size;simp only;omega)).trans l0
    clear hW
    go_simp
   refine A4 (i:=6) (by kernel_rfl) rfl (fun K hK=>?_)
   go_simp
   refine U.o.mono ?_
   rintro e u4 ⟨ao,ci,rfl,C,G,M⟩
   have d:=ya C;have b9:=ya G
   have j:Hid (Below an.heap.size an u4):=ya ((yc _ _).drew.trans M)
   clear C G M
   refine hK.o _ _ (fun _=>j.o) ?_
   clear hK K
   refine A0 (i:=7) (v:=.tuple #[.agg (ao).toArray,.bool g4]) rfl (by kernel_rfl) (by kernel_rfl) (by kernel_rfl) (fun _ _ _ h=>h) (by kernel_rfl) (Or.inl ⟨by rfl,?_⟩) (fun _=>j.o) ?_
   ·intro w _;go_simp
   refine A0 (i:=8) (v:=.agg (ao).toArray) rfl (by kernel_rfl) (by kernel_rfl) (by kernel_rfl) (fun _ _ _ h=>h) (by kernel_rfl) (Or.inl ⟨by rfl,?_⟩) (fun _=>j.o) ?_
   ·intro w _;go_simp
   refine A0 (i:=9) (v:=.bool g4) rfl (by kernel_rfl) (by kernel_rfl) (by kernel_rfl) (fun _ _ _ h=>h) (by kernel_rfl) (Or.inl ⟨by rfl,?_⟩) (fun _=>j.o) ?_
   ·intro w _;go_simp
   have aa:Hid (u4.heap[f.heap.size]?=some (.cells ([]++(cv++[])).toArray 26 (0,0))):=ya (by simpa using Bl j.o l.o.a)
   refine A4 (i:=10) (by kernel_rfl) rfl (fun K hK=>?_)
   rw[yu (by rfl)]
   refine zh 26 _ _ rfl (f.heap.size) 0 (ao).toArray rfl rfl (Be aa.o (by simp[d.o.len,l.o.la])) (by rw[yp];exact AE d.o.len) (yy (A8 d.o)) ?_
   have u:=ya (Aw (f.heap.size) 26 (ao) 0 u4 [] cv [] aa.o rfl (by rw[d.o.len,l.o.la]))
   rw[yE,yG] at u
   refine hK.o _ _ (by intro h;cases h) ?_
   clear hK K
   obtain ⟨er,ad⟩:∃z:World,z=u4.setCells (f.heap.size) 0 (ao):=⟨_,rfl⟩
   rw[yN,<-ad]
   rw[<-ad] at u
   clear ad
   refine A4 (i:=11) (by kernel_rfl) rfl (fun K hK=>?_)
   go_simp
   refine hK.o _ _ (by intro h;cases h) ?_
   clear hK K
   refine AG (by kernel_rfl) ?_
   refine NoPanic.normal ?_
   have N:=ya d.o.len
   have aj:=ya (A8 d.o)
   go_wp2_with (first
    |(refine yf rfl 26 _ rfl (f.heap.size) 0 rfl ao _ (A6 u.o.row) qF rfl (AE N.o) ?_)
    |(refine A7 rfl 26 _ _ rfl w.heap.size 45 rfl ao rfl (p:=p++(x4++(a2++(x6)))) (m:=E) (q:=[]) (t:=51) (Di l.o.bx j.o l.o.lA u.o ea.o) (by simp[au.o,L.o,R.o,a6.o]) (by rw[ah.o,N.o]) (AE N.o) aj.o ?_;intro dw I;have H:Hid (AB er dw w.heap.size (p++(x4++(a2++(x6++(ao))))) 51):=ya (by simpa[yg] using I);clear I)
    |(refine Ae J rfl _ rfl rfl ?_)
    |(refine Ak (g:=J) rfl _ _ _ rfl rfl (.bool (J&&g4)) (by cases J<;>rfl) ?_;generalize s:(J&&g4)=ay;have a8:=ya s;clear s)
    |(refine Ab (g:=J) z7 rfl ?_;simp only[CW,Aa])
    |(refine Ab (g:=J) (Av J) rfl ?_;simp only[CW,Aa])
    |(rw[AD J g4];generalize s:(J&&g4)=ay;have a8:=ya s;clear s))
   have hu:=Ca l.o.bx l.o.ve (by simp) (by simp) l.o.lA l.o.a j.o d.o u.o H.o
   have al:Hid (J2 w ls F [w.heap.size,w.heap.size+2,f.heap.size] f.heap.size p [y,B,D,S] [Z,a7,ac,ag] x4 a2 x6 ao y4 bd y6 ci dw):=ya (by
    obtain ⟨hB,hA,X,hV,hE⟩:=hu
    obtain ⟨t0,t1,t2,t3,s0,s1,s2,s3,_⟩:=hV
    exact ⟨ao,hB,hA,N.o,X,⟨t0,t1,t2,t3,s0,s1,s2,hE,trivial⟩⟩)
   clear hu l j d u H aa U O A l0 l1 l2 l3 L R a6 ah N aj
   have l:=al
   clear al
   refine ⟨⟨ay,rfl,.inr (.inr ⟨rfl,ya ⟨x4,a2,x6,ao,y4,bd,y6,ci,l.o,?_,?_⟩⟩)⟩,by simp[intOf]⟩
   ·simp only[<-a8.o,<-ab.o,b5.o,hz.o]
   ·intro hb
    rw[<-a8.o,<-ab.o] at hb
    simp only[ym] at hb
    obtain ⟨h1,h2⟩:=bt.o hb.1.1
    exact ⟨h1,(by first|exact (b8.o hb.1.2).trans ge.o.symm|exact b8.o hb.1.2),h2,(by first|exact (b9.o hb.2).trans i8.o.symm|exact b9.o hb.2)⟩
  ·obtain ⟨x4,x5,x6,x7,y4,y5,y6,y7,hJ,ai,az⟩:=cj.o
   have b5:=ya ai;have bt:=ya az
   obtain ⟨ca,hB,hA,fv,gf,hV⟩:=hJ
   have P:=ya hB;have HV:=ya hV
   clear cj ai az hB hA fv gf hV
   obtain ⟨zr,c9,dq⟩:=P.o.r
   have HZ:=ya c9;have ez:=ya dq
   clear c9 dq
   obtain ⟨row,av⟩:∃r:LV,r=p++(x4++(x5++(x6++x7))):=⟨_,rfl⟩
   rw[<-av] at P
   have HN:Hid (row.length=51):=ya (by
    obtain ⟨v0,v1,v2,v3,v4,v5,v6,v7,_⟩:=HV.o
    rw[av];simp[au.o,v4.len,v5.len,v6.len,v7.len])
   have ec:Hid (∀v∈row,v.oneCell'=true):=ya (by
    obtain ⟨v0,v1,v2,v3,v4,v5,v6,v7,_⟩:=HV.o
    rw[av,d7.o]
    exact Ai (An rfl (Ai (AO _) (Ai (A8 v0) (Ai (A8 v1) (Ai (A8 v2) (A8 v3)))))) (Ai (A8 v4) (Ai (A8 v5) (Ai (A8 v6) (A8 v7)))))
   have cx:=ya av
   clear av
   go_wp2_with (first
    |(refine yf rfl 51 _ rfl w.heap.size 0 rfl row _ (A6 P.o.x) qS rfl (AX (n:=51) (by kernel_rfl) HN.o) ?_)
    |(refine A2 rfl 51 _ _ rfl (w.heap.size+2) rfl row rfl ez.o (by rw[yp,HZ.o,HN.o]) (AX (n:=51) (by kernel_rfl) HN.o) ec.o ?_;intro w9 c8;have bu:=ya c8;clear c8))
   refine At rfl rfl bu.o.row qS rfl (AX (n:=51) (by kernel_rfl) HN.o) ?_
   obtain ⟨v0,v1,v2,v3,v4,v5,v6,v7,_⟩:=FI HV.o (by simp) bu.o
   have bv:b=BI t ⟨dn,dr,e0,e1,e2,e3,e4,e5,e6,e7⟩ i:=by
    rw[b5.o,dx.o]
    simp only[dg.o,d8.o,dp.o,cz.o,bi.o,bo.o,bq.o,ax.o]
   refine ⟨row,⟨dn,dz,Z,a7,ac,ag,y4,y5,y6,y7⟩,BH rfl (yz Value.bool bv),⟨h1,h2,y,B,D,S,x4,x5,x6,x7,by rw[cx.o,d7.o];simp[yg],v0,v1,v2,v3,v4,v5,v6,v7⟩,?_,bu.o.below P.o.below (by omega)⟩
   intro hq
   rw[<-bv] at hq
   obtain ⟨m4,m5,m6,m7⟩:=bt.o hq
   rw[bv,dx.o] at hq
   simp only[dg.o,d8.o,dp.o,cz.o,ym] at hq
   obtain ⟨⟨⟨⟨⟨⟨⟨⟨k0,k1⟩,k2⟩,k3⟩,k4⟩,_⟩,_⟩,_⟩,_⟩:=hq
   have dm:=ib.o k0
   simp only[Bt] at dm
   simp only[Bt,dm,bb.o k1,g5.o,ba.o k2,gi.o,b8.o k3,i6.o,b9.o k4,gz.o,m4,m5,m6,m7]
end Go.Proofs.Ytghepahgkcigpaa
