/- The law's mapped: its loop over farms (printed by gen_af.py). -/
import Derived.Test.YtghepahgkcigpaaRg0
import Derived.Test.YtghepahgkcigpaaRg22
import Derived.Deep.CutBlock
set_option maxHeartbeats 64000000
set_option maxRecDepth 100000
set_option linter.unusedSimpArgs false
namespace Go.Proofs.Ytghepahgkcigpaa
open Go.RowKit
set_option linter.unusedSimpArgs false
def JK(id:Nat)(caps:Array Value)(w:World)(u z:Nat->Value)(v:Value)(n i B:Nat):Array Value:=#[u 0,.func (.func id) #[] caps,.pointer (some ⟨w.heap.size,0,none⟩),u 3,.pointer (some ⟨w.heap.size+1,0,none⟩),.pointer (some ⟨w.heap.size+2,0,none⟩),u 6,u 7,u 8,u 9,u 10,u 11,u 12,u 13,.pointer (some ⟨B,0,none⟩),u 15,u 16,u 17,u 18,u 19,u 20,u 21,u 22,u 23,u 24,u 25,u 26,u 27,u 28,u 29,u 30,u 31,u 32,u 33,u 34,u 35,u 36,u 37,u 38,u 39,u 40,u 41,u 42,u 43,u 44,u 45,u 46,u 47,u 48,u 49,u 50,u 51,u 52,u 53,u 54,u 55,u 56,u 57,u 58,u 59,u 60,u 61,u 62,u 63,u 64,u 65,u 66,u 67,u 68,u 69,u 70,u 71,u 72,u 73,u 74,u 75,u 76,u 77,u 78,u 79,u 80,u 81,u 82,u 83,u 84,u 85,u 86,u 87,u 88,u 89,u 90,u 91,u 92,u 93,u 94,u 95,u 96,u 97,u 98,u 99,u 100,u 101,u 102,u 103,u 104,u 105,u 106,u 107,u 108,u 109,u 110,u 111,u 112,u 113,u 114,u 115,u 116,u 117,u 118,u 119,u 120,u 121,u 122,u 123,u 124,u 125,u 126,u 127,u 128,u 129,u 130,u 131,u 132,u 133,u 134,u 135,u 136,u 137,u 138,u 139,u 140,u 141,u 142,u 143,u 144,u 145,u 146,.pointer (some ⟨w.heap.size,22,none⟩),v,.int .i64 n,.int .i64 i,z 151,z 152,z 153,z 154,z 155,z 156,z 157,z 158,z 159,z 160,z 161,z 162,z 163,z 164,z 165,z 166,z 167,z 168,z 169,z 170,z 171,z 172,z 173,z 174,u 175,u 176,u 177,u 178,u 179,u 180,u 181,u 182,u 183,u 184,u 185,u 186,u 187,u 188,u 189,u 190,u 191,u 192,u 193,u 194,u 195,u 196,u 197,u 198,u 199,u 200,u 201,u 202,u 203,u 204,u 205,u 206,u 207,u 208,u 209,u 210,u 211,u 212,u 213,u 214,u 215,u 216,u 217,u 218,u 219,u 220,u 221,u 222,u 223,u 224,u 225,u 226,u 227,u 228,u 229,u 230,u 231,u 232,u 233,u 234,u 235,u 236,u 237,u 238,u 239,u 240,u 241,u 242,u 243,u 244,u 245,u 246,u 247,u 248,u 249,u 250,u 251,u 252,u 253,u 254,u 255,u 256,u 257,u 258,u 259,u 260,u 261,u 262,u 263,u 264,u 265,u 266,u 267,u 268,u 269,u 270,u 271,u 272,u 273,u 274,u 275,u 276,u 277,u 278,u 279,u 280,u 281,u 282,u 283,u 284,u 285,u 286,u 287,u 288,u 289,u 290,u 291,u 292,u 293,u 294,u 295,u 296,u 297,u 298,u 299,u 300,u 301,u 302]
theorem KE{id:Nat}{caps:Array Value}{w:World}{u:Nat->Value}{v:Value}{n i B:Nat}{P:Array Value->Prop}{l:Array Value}(h:P (JK id caps w u (fun k=>l.getD k undef) v n i B))(e:JK id caps w u (fun k=>l.getD k undef) v n i B=l):P l:=e▸h
theorem Ub{id:Nat}{caps:Array Value}{F G:NP}{J:Bool->World->Prop}{g:Int->Rf->Rf}{q:Int->Rf->Bool}{b:Bool}{w W:World}{cs:LV}{u:Nat->Value}{x y:An}{L:Bh}{c0 c1 c2:LV}{h0 h1 h2:Av}(hc:Jo id caps F g q J)(hv:B8 (GF G w) w L cs x)(aq:Sh x)(ar:∀k,F k->G k)(hG:∀k,G k->k < w.heap.size)(hu:UF id caps w u)
 (hS:MS F w cs (.string y.name::(c0++(c1++(c2++[h0.v,h1.v,h2.v,.slice none 0 0,.slice none 0 0,.slice none 0 0,.slice none 0 0])))) W)(hY:Dl 3 (GF (FL G [w.heap.size,w.heap.size+1,w.heap.size+2]) W) W c0 c1 c2 h0 h1 h2 ⟨none,0,0⟩ ⟨none,0,0⟩ ⟨none,0,0⟩ ⟨none,0,0⟩ y)(hJ:J b W):
  Code.wp Try.prog (CP 7 (Try.f17.body.getD .skip)) (bodyPost Try.prog Try.f17 (MP F G J ((((b&&x.farms.all (FD q))&&x.rots.all (I8 q))&&x.rights.all (Dn q))&&x.duties.all (ED q)) (⟨y.name,y.season,y.cap,y.start,y.lets,y.crops,y.reaches,(x.farms.map (DH g)),(x.rots.map (Ge g)),(x.rights.map (Cx g)),(x.duties.map (Du g))⟩:An) w)) {tmps:=J0 u,defers:=[]} W:=by
 have cl:∀k,F k->k < w.heap.size:=fun k d=>hG k (ar k d)
 obtain ⟨⟨a,n,c⟩,hL⟩:∃h:Av,L.farms=h:=⟨_,rfl⟩
 obtain ⟨s0,s1,s2,c4,g0,g1,g2⟩:=hv.cells
 have b9:W.cell? (aV w.heap.size 22)=some (.slice a n c):=by
  refine hS.cell (p:=.string x.name::(s0++(s1++(s2++[L.lets.v,L.crops.v,L.reaches.v])))) (q:=[L.rots.v,L.rights.v,L.duties.v]) ?_ (by simp[g0.len,g1.len,g2.len])
  rw[c4,hL]
  simp[yl,Av.v]
 have b7:Az (GF G w) w 12 (DE (GF G w) w) ⟨a,n,c⟩ x.farms:=hL▸hv.farms
 have dd:=yb b7.2.2
 have a7:Hid (n=x.farms.length):=yb b7.1
 have ba:Hid (x.farms.length<=100000):=yb aq.slim.farms
 have HN:Hid (n<=140737488355328):=yb (by have:=a7.o;have:=ba.o;omega)
 obtain ⟨P,hP⟩:∃P:LV,P=.string y.name::(c0++(c1++(c2++[h0.v,h1.v,h2.v]))):=⟨_,rfl⟩
 have cg:Hid (P.length=22):=yb (by rw[hP];simp[hY.e0.len,hY.e1.len,hY.e2.len])
 have ck:MS F w cs (P++(.slice none 0 0:: qW)) W:=by rw[hP];simpa[yl] using hS
 obtain ⟨I,hI⟩:∃I:Nat->World->Prop,I=fun i W=>∃v,MI DE 59 12 F G J b w cs P qW (fun N W=>Dl 3 N W c0 c1 c2 h0 h1 h2 ⟨none,0,0⟩ ⟨none,0,0⟩ ⟨none,0,0⟩ ⟨none,0,0⟩ y) (fun i=>(x.farms.take i).all (FD q)) (fun i=>(x.farms.take i).map (DH g)) i v W:=⟨_,rfl⟩
 have ch:Hid (I 0 W):=yb (by
  rw[hI]
  exact ⟨_,ck,by simpa using hJ,by simpa[ob,Value.ownBlock] using hY,by simpa using DQ⟩)
 have HI:=yb hI;have HV:=yb hv;have HC:=yb hc;have bv:=yb aq;have S:=yb ar;have HG:=yb hG;have E:=yb cl;have d0:=yb hP;have HU:=yb hu;have dk:=yb hY.name
 rw[FB,hu.u1,hu.u2,hu.u4,hu.u5]
 clear hv aq hc ar hG cl hS hY hJ hP hL c4 g0 g1 g2 b7 ck hI hu
 refine Ag fun K hK=>?_
 go_wp2
 go_loopw [150] (fun iv wr=>∃i:Nat,iv=iV i∧i<=n∧Hid (I i wr)) (fun iv _=>n - (intOf iv).toNat)
 case atStart=>exact ⟨0,rfl,yz _,ch⟩
 case round=>
  clear ch b9
  obtain ⟨i,rfl,hi,c6⟩:=hrel
  obtain ⟨v,hM⟩:∃v,MI DE 59 12 F G J b w cs P qW (fun N W=>Dl 3 N W c0 c1 c2 h0 h1 h2 ⟨none,0,0⟩ ⟨none,0,0⟩ ⟨none,0,0⟩ ⟨none,0,0⟩ y) (fun i=>(x.farms.take i).all (FD q)) (fun i=>(x.farms.take i).map (DH g)) i v wr:=by have h:=c6.o;rw[HI.o] at h;exact h
  obtain ⟨va,Z,X,rfl⟩:=hM.grow.slice
  have H:=yb hM
  clear c6 hM
  have dg:n<=140737488355328:=HN.o
  by_cases d6:i < n
  ·have af:i < x.farms.length:=by rw[<-a7.o];exact d6
   have d2:(i:Int) < (n:Int):=by omega
   obtain ⟨bq,oq,ct,he,ai,cp,ag,au⟩:=dd.o i af
   obtain rfl:a=some (aV bq oq):=he
   have am:Hid ((b&&(x.farms.take (i+1)).all (FD q))=((b&&(x.farms.take i).all (FD q))&&FD q x.farms[i])):=yb (by
    rw[yq af,zh,ze,zu,yT,<-zc])
   have ax:Hid ((x.farms.take (i+1)).map (DH g)=(x.farms.take i).map (DH g)++[DH g x.farms[i]]):=yb (by rw[yq af,zb];rfl)
   have df:Hid (i+1<=1000000):=yb (by have:=a7.o;have:=ba.o;omega)
   have bg:=yb (bv.o.farms _ (yy af))
   have cz:Hid (((x.farms.take i).map (DH g)).length=i):=yb (by simp;omega)
   generalize hD:x.farms[i]=D at au am ax bg
   clear hD
   generalize ci:(b&&(x.farms.take i).all (FD q))=bb at am
   have HJ:Hid (J bb wr):=yb (by rw[<-ci];exact H.o.j)
   clear ci
   have bh:=yb (Ir au).2
   have O:=yb cp
   obtain ⟨nm,M,R,e0,T⟩:=D
   obtain ⟨b8,bk,ay,c0,rfl,x0⟩:=au
   simp only at ag O bh am ax bg b8 bk ay x0
   obtain ⟨ct,a8⟩:∃ct:LV,ct=(.string nm::(Ah M++(.bool R::(c0++Ah T)))):=⟨_,rfl⟩
   rw[<-a8] at ag O bh
   have cx:=yb a8
   have d3:=yb b8
   have cf:=yb bk
   have av:=yb ay
   have bp:Hid (wr.rangeAt bq (oq+i*12) ct):=yb (A2 ag (H.o.ms.bx.block bq ai.2 (fun k=>ai.1 (S.o _ k))))
   have dj:Hid (bq < wr.heap.size):=yb (yp ai.2 H.o.ms.bx.size)
   have bu:Hid (At (fun c e=>AP (GF G w) w e c) [c0] [e0]):=yb ⟨x0,trivial⟩
   have c5:Hid (∀k∈(([w.heap.size,w.heap.size+1,w.heap.size+2]++ob (.slice va Z X))++[wr.heap.size]),w.heap.size<=k∧k<=wr.heap.size):=yb (by
    have h1:=H.o.ms.lt
    intro k d
    rcases yo.1 d with d|d
    ·rcases yo.1 d with d|d
     ·simp at d;omega
     ·have:=H.o.grow.lt k d;omega
    ·simp at d;omega)
   have C:=yb H.o.ms.lt
   have bo:Hid (¬ F wr.heap.size):=yb (fun h=>by have:=E.o _ h;have:=C.o;omega)
   clear a8 ag ai cp b8 bk ay x0
   go_upto_block 9 with fail
   refine wp_block ?_
   refine Ag fun K1 ac=>?_
   go_wp2_with (first
    |(with_reducible refine yj rfl 59 _ rfl bq (oq+i*12) (by kernel_rfl) ct _ bp.o qJ (by kernel_rfl) (BW (n:=12) (by kernel_rfl) O.o) ?_)
    |(with_reducible refine Aj rfl 59 _ _ rfl wr.heap.size (by kernel_rfl) ct (by kernel_rfl) (World.alloc_heap_new _ _) (by rw[yB,O.o];kernel_rfl) (BW (n:=12) (by kernel_rfl) O.o) bh.o ?_;intro X1 c8;have ah:=yb c8;clear c8))
   refine ac.o _ _ ?_
   clear ac
   have s:Hid (TB F wr 59 (.string nm::(Ah M++(.bool R::(c0++Ah T)))) X1):=yb (by rw[<-cx.o];exact EE ah.o)
   have f:Hid (J bb X1):=yb (HC.o.stab _ _ _ HJ.o (fun k d=>(AB ah.o).block k (by have:=E.o k d;have:=C.o;omega)) (AB ah.o).size)
   have A:Hid (VE G (([w.heap.size,w.heap.size+1,w.heap.size+2]++ob (.slice va Z X))++[wr.heap.size]) X1 [c0] [e0]):=yb (At.mono (fun _ _ h=>h.flux ((H.o.ms.bx.trans (s.o.bx.mono H.o.ms.bx.size)).flux (ye _) S.o) (fun k d=>d.imp (fun h=>h) (fun h=>(c5.o k h).1))) bu.o)
   clear ah bp bu
   have al:=yb (HC.o.call (bb) X1 2 wr.heap.size 1 (.string nm::([]:LV)) M (.bool R::(c0++Ah T)) 59 f.o (by have h:=s.o.row;simpa[yl] using h) (by simp) bo.o cf.o (by decide) (by decide))
   refine Ag fun K1 ac=>?_
   go_wp2
   rw[HC.o.enter,zR]
   refine al.o.mono ?_
   rintro e X2 ⟨rfl,hj,hx⟩
   have V:WX F X1 X2 wr.heap.size (.string nm::(Ah (g 2 M)++(.bool R::(c0++Ah T)))) 59:=by simpa[yl] using hx
   have hT:=s.o.cb V;have hE:=A.o.cb V S.o (by simp)
   clear s f A al hx
   have s:=yb hT;have A:=yb hE;have f:=yb hj
   clear hT hE hj V
   go_wp2
   refine ac.o _ _ ?_
   clear ac
   obtain ⟨rc,b3⟩:∃r:Rf,r=if R=true then T else g 1 T:=⟨_,rfl⟩
   obtain ⟨qc,c3⟩:∃r:Bool,r=if R=true then true else q 1 T:=⟨_,rfl⟩
   have ae:=yb b3;have az:=yb c3
   have cw:Hid (rc.name.size<=maxLen):=yb (by rw[b3];split;exact av.o;exact HC.o.name _ _ av.o)
   clear b3 c3
   refine Ag fun K2 cn=>?_
   have a2:Hid (∀(z:Nat->Value) (Y:World),TB F wr 59 (.string nm::(Ah (g 2 M)++(.bool R::(c0++Ah rc)))) Y->VE G (([w.heap.size,w.heap.size+1,w.heap.size+2]++ob (.slice va Z X))++[wr.heap.size]) Y [c0] [e0]->J ((bb&&q 2 M)&&qc) Y->K2 ⟨JK id caps w u z (.slice (some (aV bq oq)) n c) n i wr.heap.size,[]⟩ Y):=yb (by
    intro z Y hT hE hj
    clear s f A
    have s:=yb hT;have A:=yb hE;have f:=yb hj
    clear hT hE hj
    unfold JK
    refine cn.o _ _ ?_
    have c7:=yb (s.o.part (p:=(.string nm::(Ah (g 2 M)++(.bool R::([]:LV))))) (m:=c0) (q:=Ah rc) (off:=4) (by simp) (by simp[A7]))
    have b5:=A.o.1
    have bd:=yb b5.len
    have ap:=yb (B6 HC.o e0 (FL G (([w.heap.size,w.heap.size+1,w.heap.size+2]++ob (.slice va Z X))++[wr.heap.size])) (((bb&&q 2 M)&&qc)) Y c0 bg f.o b5 (fun k d=>.inl (S.o k d)) (fun k d=>by
     have h1:=s.o.lt;have h2:=C.o
     rcases d with d|d
     ·have:=HG.o k d;omega
     ·have:=(c5.o k d).2;omega))
    clear b5
    go_upto_region 36 with (first
     |(with_reducible refine yj rfl 26 _ rfl wr.heap.size 4 (by kernel_rfl) c0 _ c7.o qq (by kernel_rfl) (BV bd.o) ?_)
     |(go_at_call 65;refine ap.o.mono ?_;rintro e X4 ⟨res,rfl,bn,cq,be⟩;have a6:=yb bn;have cr:=yb cq;have db:=yb be;have bj:=yb (s.o.call (fun k d=>by have:=E.o k d;have:=C.o;omega) be);clear bn cq be)
     |(with_reducible refine Cy rfl 26 _ _ rfl wr.heap.size 4 (by kernel_rfl) res (by kernel_rfl) (p:=(.string nm::(Ah (g 2 M)++(.bool R::([]:LV))))) (m:=c0) (q:=Ah rc) (t:=59) (by have h:=bj.o.row;simpa[yl] using h) (by simp[A7]) (by rw[bd.o,a6.o.len]) (BV a6.o.len) (Ai a6.o) ?_;intro X5 bs;have aa:Hid (AF X4 X5 wr.heap.size (.string nm::(Ah (g 2 M)++(.bool R::(res++Ah rc)))) 59):=yb (by simpa[yl] using bs);clear bs))
    have hT:=bj.o.wrote aa.o
    have HR:Hid (AP (GF (FL G (([w.heap.size,w.heap.size+1,w.heap.size+2]++ob (.slice va Z X))++[wr.heap.size])) X5) X5 (AM g e0) res):=yb (a6.o.fl (aa.o.flux (.inr (by simp))) (fun _ h=>.inl h))
    have hj:=HC.o.stab _ _ _ cr.o (fun k d=>aa.o.block k (by have:=E.o k d;have:=C.o;omega)) (by rw[aa.o.size];exact ye _)
    clear s bj f cr A a6 db aa c7 bd ap
    have s:=yb hT;have f:=yb hj
    clear hT hj
    obtain ⟨a0,b4⟩:∃r:LV,r=(.string nm::(Ah (g 2 M)++(.bool R::(res++Ah rc)))):=⟨_,rfl⟩
    rw[<-b4] at s
    have aw:Hid (DE (GF (FL G ([w.heap.size,w.heap.size+1,w.heap.size+2]++ob (.slice va Z X))) X5) X5 a0 (DH g ⟨nm,M,R,e0,T⟩)):=yb (by
     rw[b4]
     have x0:AP (GF (FL G ([w.heap.size,w.heap.size+1,w.heap.size+2]++ob (.slice va Z X))) X5) X5 (AM g e0) res:=HR.o.fl (Bj.refl _ _) (fun k d=>.inl (yo.2 (.inl d)))
     exact ⟨d3.o,HC.o.name _ _ cf.o,by rw[show (DH g (⟨nm,M,R,e0,T⟩:BL)).crop=rc by rw[ae.o];rfl];exact cw.o,_,by rw[ae.o];rfl,x0⟩)
    clear b4 HR
    have ak:=yb (Ir aw.o).1;have da:=yb (Ir aw.o).2
    have bi:Hid (MS F w cs (P++(.slice va Z X:: qW)) X5):=yb (H.o.ms.up E.o C.o s.o.bx)
    have di:X5.cell? (aV (w.heap.size+2) 22)=some (.slice va Z X):=bi.o.cellx rfl cg.o
    have co:Hid (Bj (FL G ([w.heap.size,w.heap.size+1,w.heap.size+2]++ob (.slice va Z X))) wr X5):=yb (s.o.bx.flux (ye _) (fun k d=>.inl (S.o k d)))
    have cd:=H.o.grow.up (l':=[w.heap.size,w.heap.size+1,w.heap.size+2]) EX co.o (fun k d=>s.o.bx.block k (H.o.grow.lt k d).2 (fun h=>by have:=E.o k h;have:=(H.o.grow.lt k d).1;omega)) (fun _ h=>.inl h)
    obtain ⟨rows,aj,cc,ad⟩:=cd.own
    have cv:=yb aj;have d8:=yb cc;have cj:=yb ad
    have an:Hid (w.heap.size+3<=X5.heap.size):=yb bi.o.lt
    have bm:Hid ((X5.alloc (.cells a0.toArray 59)).ownsRow (w.heap.size+3) 59 12 (.slice va Z X) rows.length rows.flatten):=yb (BA aj fun k d=>((yg _ _).alloc (ye _) _).block k (F9 aj k d).2)
    have bt:Hid (rows.length+1<=1000000):=yb (by rw[At.length ad,cz.o];exact df.o)
    have d9:Hid (w.heap.size+3<=(X5.alloc (.cells a0.toArray 59)).heap.size):=yb (by have:=an.o;simp;omega)
    clear aj cc ad cd
    go_upto_region 37 with (first
     |(with_reducible refine yj rfl 59 _ rfl wr.heap.size 0 (by kernel_rfl) a0 _ (Ay s.o.row) qJ (by kernel_rfl) (BW (n:=12) (by kernel_rfl) ak.o) ?_)
     |(with_reducible refine BN rfl 30 59 _ rfl a0 (by kernel_rfl) 12 qx (by kernel_rfl) ak.o (by omega) (by omega) ?_)
     |(at_builtin;refine Bd qx rfl _ _ rfl 12 (by kernel_rfl) (by omega) (w.heap.size+3) (.slice va Z X) rows.length rows.flatten (by kernel_rfl) bm.o X5.heap.size 1 a0 (by kernel_rfl) (World.alloc_heap_new _ _) ak.o da.o bt.o d9.o ?_;intro vx x8 ab c9 bz;obtain ⟨xa,xn,xc,rfl⟩:=Cz ab;have U:=yb (CD EX cj.o d8.o cv.o aw.o ak.o ab c9 bz an.o);have ao:=yb (bi.o.up E.o (ye _) (.of U.o.below));clear ab c9 bz)
     |(with_reducible refine Ao rfl 30 _ _ rfl (w.heap.size+2) 22 (by kernel_rfl) (.slice xa xn xc) (by kernel_rfl) (by kernel_rfl) (p:=P) (m:=.slice va Z X) (q:= qW) (t:=35) ao.o.x cg.o (by kernel_rfl) (by kernel_rfl) ?_;intro x9 cm;have a1:=yb cm;clear cm))
    go_wp2
    have cy:Hid (I (i+1) x9):=yb (by
     rw[HI.o]
     refine ⟨.slice xa xn xc,ao.o.wrote a1.o,?_,?_,?_⟩
     ·rw[show (b&&(x.farms.take (i+1)).all (FD q))=(((bb&&q 2 M)&&qc)&&AV q e0) by rw[am.o];simp only[FD,zc];rw[az.o]]
      exact HC.o.stab _ _ _ f.o (fun k d=>(a1.o.block k (by have:=E.o k d;omega)).trans (U.o.below.block k (by have:=E.o k d;omega))) (by rw[a1.o.size];exact U.o.flux.1)
     ·exact ((H.o.got.flux co.o (fun _ h=>.inl h)).flux U.o.flux (Im U.o.obs)).flux (a1.o.flux (.inr (by simp))) (fun _ h=>.inl h)
     ·have h:=U.o.grow.up (l':=[w.heap.size,w.heap.size+1,w.heap.size+2]) EX (a1.o.flux (.inr (by simp))) (fun k d=>a1.o.block k (by have:=(U.o.grow.lt k d).1;omega)) (fun _ h=>.inl h)
      rw[<-ax.o] at h
      exact h)
    exact ⟨⟨i+1,by push_cast;rfl,by omega,cy⟩,by simp[intOf];omega⟩)
   clear cn
   have dh:X2.cell? (aV wr.heap.size 3)=some (.bool R):=Cp (s.o.part (p:=(.string nm::(Ah (g 2 M)++([]:LV)))) (m:=[.bool R]) (q:=(c0++Ah T)) (by simp) (by simp[A7]))
   by_cases Q:R=true
   ·obtain rfl:=Q
    go_wp2
    refine KE (id:=id) (caps:=caps) (w:=w) (u:=u) (v:=.slice (some (aV bq oq)) n c) (n:=n) (i:=i) (B:=wr.heap.size) (P:=fun l=>K2 ⟨l,[]⟩ X2) ?_ (by kernel_rfl)
    exact a2.o _ _ (by rw[show rc=T by rw[ae.o];first|exact yx rfl|exact yx Q|exact yx trivial|simp];exact s.o) A.o (by rw[show qc=true by rw[az.o];first|exact yx rfl|exact yx Q|exact yx trivial|simp,yT];exact f.o)
   ·obtain rfl:R=false:=by simpa using Q
    have ce:=yb (A.o.1).len
    have al:=yb (HC.o.call ((bb&&q 2 M)) X2 1 wr.heap.size 10 (.string nm::(Ah (g 2 M)++(.bool false::(c0++([]:LV))))) T ([]:LV) 59 f.o (by have h:=s.o.row;simpa[yl] using h) (by simp[A7,ce.o]) bo.o av.o (by decide) (by decide))
    go_wp2
    rw[HC.o.enter,zR]
    refine al.o.mono ?_
    rintro e X9 ⟨rfl,hj,hx⟩
    have V:WX F X2 X9 wr.heap.size (.string nm::(Ah (g 2 M)++(.bool false::(c0++Ah (g 1 T))))) 59:=by simpa[yl] using hx
    have hT:=s.o.cb V;have hE:=A.o.cb V S.o (by simp)
    have d7:=yb hT;have d5:=yb hE;have d1:=yb hj
    clear hT hE hj V hx
    go_wp2
    refine KE (id:=id) (caps:=caps) (w:=w) (u:=u) (v:=.slice (some (aV bq oq)) n c) (n:=n) (i:=i) (B:=wr.heap.size) (P:=fun l=>K2 ⟨l,[]⟩ X9) ?_ (by kernel_rfl)
    exact a2.o _ _ (by rw[show rc=g 1 T by rw[ae.o];first|exact yu Q|exact yu (fun h=>h)|simp[Q]];exact d7.o) d5.o (by rw[show qc=q 1 T by rw[az.o];first|exact yu Q|exact yu (fun h=>h)|simp[Q]];exact d1.o)
  ·obtain rfl:i=n:=by omega
   have d2:decide ((i:Int) < (i:Int))=false:=by simp
   have HQ:Hid (J (b&&x.farms.all (FD q)) wr):=yb (by have h:=H.o.j;simp only[a7.o,yw] at h;exact h)
   have bw:DA DE 59 12 (w.heap.size+3) G [w.heap.size,w.heap.size+1,w.heap.size+2] wr (.slice va Z X) (x.farms.map (DH g)):=by have h:=H.o.grow;simp only[a7.o,yw] at h;exact h
   obtain ⟨hd,cu,ca⟩:=bw.done EX (fun k d=>by have:=HG.o k d;omega) (fun k d=>by simp at d;omega) (by have:=ba.o;simp;omega)
   have de:Hid (Dl 4 (GF (FL G [w.heap.size,w.heap.size+1,w.heap.size+2]) wr) wr c0 c1 c2 h0 h1 h2 hd ⟨none,0,0⟩ ⟨none,0,0⟩ ⟨none,0,0⟩ (⟨y.name,y.season,y.cap,y.start,y.lets,y.crops,y.reaches,(x.farms.map (DH g)),y.rots,y.rights,y.duties⟩:An)):=yb (by
    have h:=H.o.got.flux (F':=FL G [w.heap.size,w.heap.size+1,w.heap.size+2]) (Bj.refl _ _) (fun k d=>.inl (d.imp (fun h=>h) (fun h=>yo.2 (.inl h))))
    exact ⟨h.name,h.e0,h.e1,h.e2,fun d=>h.lets (by omega),fun d=>h.crops (by omega),fun d=>h.reaches (by omega),fun _=>ca,fun d=>absurd d (by omega),fun d=>absurd d (by omega),fun d=>absurd d (by omega)⟩)
   rw[cu] at H
   have d4:=yb H.o.ms
   clear bw cu ca H
   go_wp2
   refine hK.o _ _ ?_
   refine FC (P:=fun l=>Code.wp Try.prog _ _ ⟨l,[]⟩ wr) rfl ?_
   refine Uw (y:=(⟨y.name,y.season,y.cap,y.start,y.lets,y.crops,y.reaches,(x.farms.map (DH g)),y.rots,y.rights,y.duties⟩:An)) HC.o HV.o bv.o S.o HG.o ?_ (by have h:=d4.o;rw[d0.o] at h;simpa[yl] using h) de.o HQ.o
   exact ⟨rfl,rfl,rfl,rfl⟩
end Go.Proofs.Ytghepahgkcigpaa
