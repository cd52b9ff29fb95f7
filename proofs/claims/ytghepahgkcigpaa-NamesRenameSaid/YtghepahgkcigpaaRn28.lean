/- Parts of the proof, in short words: Di Ak Al Am -/
import Derived.Test.YtghepahgkcigpaaRn0
import Derived.Test.YtghepahgkcigpaaRn25
import Derived.Deep.CutBlock
import Derived.Test.YtghepahgkcigpaaRn26
set_option maxHeartbeats 64000000
set_option maxRecDepth 100000
set_option linter.unusedSimpArgs false
namespace Go.Proofs.Ytghepahgkcigpaa
open Go.RowKit
set_option linter.unusedSimpArgs false
def JL(id:Nat)(caps:Array Value)(w:World)(u z:Nat->Value)(v:Value)(n i B:Nat):Array Value:=#[u 0,.func (.func id) #[] caps,.pointer (some ⟨w.heap.size,0,none⟩),u 3,.pointer (some ⟨w.heap.size+1,0,none⟩),.pointer (some ⟨w.heap.size+2,0,none⟩),u 6,u 7,u 8,u 9,u 10,u 11,u 12,u 13,.pointer (some ⟨B,0,none⟩),u 15,u 16,u 17,u 18,u 19,u 20,u 21,u 22,u 23,u 24,u 25,u 26,u 27,u 28,u 29,u 30,u 31,u 32,u 33,u 34,u 35,u 36,u 37,u 38,u 39,u 40,u 41,u 42,u 43,u 44,u 45,u 46,u 47,u 48,u 49,u 50,u 51,u 52,u 53,u 54,u 55,u 56,u 57,u 58,u 59,u 60,u 61,u 62,u 63,u 64,u 65,u 66,u 67,u 68,u 69,u 70,u 71,u 72,u 73,u 74,u 75,u 76,u 77,u 78,u 79,u 80,u 81,u 82,u 83,u 84,u 85,u 86,u 87,u 88,u 89,u 90,u 91,u 92,u 93,u 94,u 95,u 96,u 97,u 98,u 99,u 100,u 101,u 102,u 103,u 104,u 105,u 106,u 107,u 108,u 109,u 110,u 111,u 112,u 113,u 114,u 115,u 116,u 117,u 118,u 119,u 120,u 121,u 122,u 123,u 124,u 125,u 126,u 127,u 128,u 129,u 130,u 131,u 132,u 133,u 134,u 135,u 136,u 137,u 138,u 139,u 140,u 141,u 142,u 143,u 144,u 145,u 146,.pointer (some ⟨w.heap.size,22,none⟩),v,.int .i64 n,.int .i64 i,z 151,z 152,z 153,z 154,z 155,z 156,z 157,z 158,z 159,z 160,z 161,z 162,z 163,z 164,z 165,z 166,z 167,z 168,z 169,z 170,z 171,z 172,z 173,z 174,u 175,u 176,u 177,u 178,u 179,u 180,u 181,u 182,u 183,u 184,u 185,u 186,u 187,u 188,u 189,u 190,u 191,u 192,u 193,u 194,u 195,u 196,u 197,u 198,u 199,u 200,u 201,u 202,u 203,u 204,u 205,u 206,u 207,u 208,u 209,u 210,u 211,u 212,u 213,u 214,u 215,u 216,u 217,u 218,u 219,u 220,u 221,u 222,u 223,u 224,u 225,u 226,u 227,u 228,u 229,u 230,u 231,u 232,u 233,u 234,u 235,u 236,u 237,u 238,u 239,u 240,u 241,u 242,u 243,u 244,u 245,u 246,u 247,u 248,u 249,u 250,u 251,u 252,u 253,u 254,u 255,u 256,u 257,u 258,u 259,u 260,u 261,u 262,u 263,u 264,u 265,u 266,u 267,u 268,u 269,u 270,u 271,u 272,u 273,u 274,u 275,u 276,u 277,u 278,u 279,u 280,u 281,u 282,u 283,u 284,u 285,u 286,u 287,u 288,u 289,u 290,u 291,u 292,u 293,u 294,u 295,u 296,u 297,u 298,u 299,u 300,u 301,u 302]
theorem KB{id:Nat}{caps:Array Value}{w:World}{u:Nat->Value}{v:Value}{n i B:Nat}{P:Array Value->Prop}{l:Array Value}(h:P (JL id caps w u (fun k=>l.getD k undef) v n i B))(e:JL id caps w u (fun k=>l.getD k undef) v n i B=l):P l:=e▸h
theorem Wp{bl:List Nat}{Bs:Nat}{id:Nat}{caps:Array Value}{F G:NP}{J:Bool->World->Prop}{g:Int->Rf->Rf}{q:Int->Rf->Bool}{b:Bool}{w W:World}{cs:LV}{u:Nat->Value}{x y:Am}{L:Bw}{c0 c1 c2:LV}{h0 h1 h2:Ai}(a0:Jj bl Bs w W)(hc:KK id caps F g q J)(hv:Bb (GF G w) w L cs x)(ay:Rz x)(bh:∀k,F k->G k)(hG:∀k,G k->k < w.heap.size)(hu:UF id caps w u)
 (hS:MS F w cs (.string y.name::(c0++(c1++(c2++[h0.v,h1.v,h2.v,.slice none 0 0,.slice none 0 0,.slice none 0 0,.slice none 0 0])))) W)(hY:Bp 3 (w.heap.size+3) bl (GF (FL G bl) W) W c0 c1 c2 h0 h1 h2 ⟨none,0,0⟩ ⟨none,0,0⟩ ⟨none,0,0⟩ ⟨none,0,0⟩ y)(hJ:J b W):
  Code.wp Try.prog (CJ 7 (Try.f17.body.getD .skip)) (bodyPost Try.prog Try.f17 (US F G J ((((b&&x.farms.all (Gv q))&&x.rots.all (Ji q))&&x.rights.all (E5 q))&&x.duties.all (Fo q)) (⟨y.name,y.season,y.cap,y.start,y.lets,y.crops,y.reaches,(x.farms.map (DJ g)),(x.rots.map (Fm g)),(x.rights.map (Ck g)),(x.duties.map (Dz g))⟩:Am) w)) {tmps:=Kl u,defers:=[]} W:=by
 have cg:∀k,F k->k < w.heap.size:=fun k hk=>hG k (bh k hk)
 obtain ⟨⟨a,n,c⟩,hL⟩:∃h:Ai,L.farms=h:=⟨_,rfl⟩
 obtain ⟨s0,s1,s2,ci,g0,g1,g2⟩:=hv.cells
 have b8:W.cell? (aV w.heap.size 22)=some (.slice a n c):=by
  refine hS.cell (p:=.string x.name::(s0++(s1++(s2++[L.lets.v,L.crops.v,L.reaches.v])))) (q:=[L.rots.v,L.rights.v,L.duties.v]) ?_ (by simp[g0.len,g1.len,g2.len])
  rw[ci,hL]
  simp[yp,Ai.v]
 have ba:Av (GF G w) w 12 (E7 (GF G w) w) ⟨a,n,c⟩ x.farms:=hL▸hv.farms
 have dq:=yb ba.2.2
 have af:Hid (n=x.farms.length):=yb ba.1
 have b3:Hid (x.farms.length<=100000):=yb ay.slim.farms
 have HN:Hid (n<=140737488355328):=yb (by have:=af.o;have:=b3.o;omega)
 obtain ⟨P,hP⟩:∃P:LV,P=.string y.name::(c0++(c1++(c2++[h0.v,h1.v,h2.v]))):=⟨_,rfl⟩
 have cz:Hid (P.length=22):=yb (by rw[hP];simp[hY.e0.len,hY.e1.len,hY.e2.len])
 have c9:MS F w cs (P++(.slice none 0 0:: ja)) W:=by rw[hP];simpa[yp] using hS
 obtain ⟨I,hI⟩:∃I:Nat->World->Prop,I=fun i W=>∃v,RC bl Bs E7 59 12 F G J b w cs P ja (fun N W=>Bp 3 (w.heap.size+3) bl N W c0 c1 c2 h0 h1 h2 ⟨none,0,0⟩ ⟨none,0,0⟩ ⟨none,0,0⟩ ⟨none,0,0⟩ y) (fun i=>(x.farms.take i).all (Gv q)) (fun i=>(x.farms.take i).map (DJ g)) i v W:=⟨_,rfl⟩
 have cx:Hid (I 0 W):=yb (by
  rw[hI]
  exact ⟨_,c9,by simpa using hJ,by simpa[ob,Value.ownBlock] using hY,by simpa using EA,a0.le⟩)
 have f:=yb a0.lo;have ac:=yb a0.mem;have d7:=yb a0.b0;have dl:=yb a0.b1;have a2:=yb a0.b2
 have HI:=yb hI;have HV:=yb hv;have HC:=yb hc;have ca:=yb ay;have Z:=yb bh;have HG:=yb hG;have H:=yb cg;have d6:=yb hP;have HU:=yb hu;have dx:=yb hY.name
 rw[Gt,hu.u1,hu.u2,hu.u4,hu.u5]
 clear a0 hv ay hc bh hG cg hS hY hJ hP hL ci g0 g1 g2 ba c9 hI hu
 refine Af fun K hK=>?_
 go_wp2
 go_loopw [150] (fun iv wr=>∃i:Nat,iv=iV i∧i<=n∧Hid (I i wr)) (fun iv _=>n - (intOf iv).toNat)
 case atStart=>exact ⟨0,rfl,yC _,cx⟩
 case round=>
  clear cx b8
  obtain ⟨i,rfl,hi,d1⟩:=hrel
  obtain ⟨v,hM⟩:∃v,RC bl Bs E7 59 12 F G J b w cs P ja (fun N W=>Bp 3 (w.heap.size+3) bl N W c0 c1 c2 h0 h1 h2 ⟨none,0,0⟩ ⟨none,0,0⟩ ⟨none,0,0⟩ ⟨none,0,0⟩ y) (fun i=>(x.farms.take i).all (Gv q)) (fun i=>(x.farms.take i).map (DJ g)) i v wr:=by have h:=d1.o;rw[HI.o] at h;exact h
  obtain ⟨va,vn,vc,rfl⟩:=hM.grow.slice
  have E:=yb hM
  clear d1 hM
  have dw:n<=140737488355328:=HN.o
  by_cases d9:i < n
  ·have ai:i < x.farms.length:=by rw[<-af.o];exact d9
   have dh:(i:Int) < (n:Int):=by omega
   obtain ⟨bq,oq,ct,he,an,cu,ak,be⟩:=dq.o i ai
   obtain rfl:a=some (aV bq oq):=he
   have am:Hid ((b&&(x.farms.take (i+1)).all (Gv q))=((b&&(x.farms.take i).all (Gv q))&&Gv q x.farms[i])):=yb (by
    rw[yt ai,zj,zf,zA,yX,<-zc])
   have bg:Hid ((x.farms.take (i+1)).map (DJ g)=(x.farms.take i).map (DJ g)++[DJ g x.farms[i]]):=yb (by rw[yt ai,zb];rfl)
   have df:Hid (i+1<=1000000):=yb (by have:=af.o;have:=b3.o;omega)
   have az:=yb (ca.o.farms _ (yz ai))
   have du:Hid (((x.farms.take i).map (DJ g)).length=i):=yb (by simp;omega)
   generalize hD:x.farms[i]=D at be am bg az
   clear hD
   generalize cp:(b&&(x.farms.take i).all (Gv q))=bb at am
   have HJ:Hid (J bb wr):=yb (by rw[<-cp];exact E.o.j)
   clear cp
   have bm:=yb (JI be).2
   have U:=yb cu
   obtain ⟨nm,R,rv,e0,X⟩:=D
   obtain ⟨bo,b5,b4,c0,rfl,x0⟩:=be
   simp only at ak U bm am bg az bo b5 b4 x0
   obtain ⟨ct,a8⟩:∃ct:LV,ct=(.string nm::(An R++(.bool rv::(c0++An X)))):=⟨_,rfl⟩
   rw[<-a8] at ak U bm
   have dg:=yb a8
   have dj:=yb bo
   have cj:=yb b5
   have b9:=yb b4
   have cn:Hid (wr.rangeAt bq (oq+i*12) ct):=yb (A2 ak (E.o.ms.bx.block bq an.2 (fun k=>an.1 (Z.o _ k))))
   have dz:Hid (bq < wr.heap.size):=yb (yr an.2 E.o.ms.bx.size)
   have d3:Hid (Az (fun c e=>AS (GF G w) w e c) [c0] [e0]):=yb ⟨x0,trivial⟩
   have cl:Hid (∀k∈((bl++ob (.slice va vn vc))++[wr.heap.size]),w.heap.size<=k∧k<=wr.heap.size):=yb (by
    have h1:=E.o.ms.lt
    intro k hk
    rcases yi.1 hk with hk|hk
    ·rcases yi.1 hk with hk|hk
     ·have:=ac.o k hk;have:=E.o.bs;omega
     ·have:=E.o.grow.lt k hk;have:=f.o;omega
    ·simp at hk;omega)
   have O:=yb E.o.ms.lt;have cd:=yb E.o.bs
   have cf:Hid (¬ F wr.heap.size):=yb (fun h=>by have:=H.o _ h;have:=O.o;omega)
   clear a8 ak an cu bo b5 b4 x0
   go_upto_block 9 with fail
   refine wp_block ?_
   refine Af fun K1 ah=>?_
   go_wp2_with (first
    |(with_reducible refine ym rfl 59 _ rfl bq (oq+i*12) (by kernel_rfl) ct _ cn.o qV (by kernel_rfl) (AU (n:=12) (by kernel_rfl) U.o) ?_)
    |(with_reducible refine Ae rfl 59 _ _ rfl wr.heap.size (by kernel_rfl) ct (by kernel_rfl) (World.alloc_heap_new _ _) (by rw[yD,U.o];kernel_rfl) (AU (n:=12) (by kernel_rfl) U.o) bm.o ?_;intro X1 cy;have ar:=yb cy;clear cy))
   refine ah.o _ _ ?_
   clear ah
   have A:Hid (TB F wr 59 (.string nm::(An R++(.bool rv::(c0++An X)))) X1):=yb (by rw[<-dg.o];exact Fp ar.o)
   have C:Hid (J bb X1):=yb (HC.o.stab _ _ _ HJ.o (fun k hk=>(AA ar.o).block k (by have:=H.o k hk;have:=O.o;omega)) (AA ar.o).size)
   have M:Hid (VE G ((bl++ob (.slice va vn vc))++[wr.heap.size]) X1 [c0] [e0]):=yb (Az.mono (fun _ _ h=>h.flux ((E.o.ms.bx.trans (A.o.bx.mono E.o.ms.bx.size)).flux (yf _) Z.o) (fun k hk=>hk.imp (fun h=>h) (fun h=>(cl.o k h).1))) d3.o)
   clear ar cn d3
   have ao:=yb (HC.o.call (bb) X1 2 wr.heap.size 1 (.string nm::([]:LV)) R (.bool rv::(c0++An X)) 59 C.o (by have h:=A.o.row;simpa[yp] using h) (by simp) cf.o cj.o (by decide) (by decide))
   refine Af fun K1 ah=>?_
   go_wp2
   rw[HC.o.enter,zW]
   refine ao.o.mono ?_
   rintro e X2 ⟨rfl,hj,s⟩
   have V:WX F X1 X2 wr.heap.size (.string nm::(An (g 2 R)++(.bool rv::(c0++An X)))) 59:=by simpa[yp] using s
   have hT:=A.o.cb V;have hE:=M.o.cb V Z.o (by simp)
   clear A C M ao s
   have A:=yb hT;have M:=yb hE;have C:=yb hj
   clear hT hE hj V
   go_wp2
   refine ah.o _ _ ?_
   clear ah
   obtain ⟨rc,bp⟩:∃r:Rf,r=if rv=true then X else g 1 X:=⟨_,rfl⟩
   obtain ⟨qc,cc⟩:∃r:Bool,r=if rv=true then true else q 1 X:=⟨_,rfl⟩
   have aq:=yb bp;have aw:=yb cc
   have dm:Hid (rc.name.size<=maxLen):=yb (by rw[bp];split;exact b9.o;exact HC.o.name _ _ b9.o)
   clear bp cc
   refine Af fun K2 ch=>?_
   have aa:Hid (∀(z:Nat->Value) (Y:World),TB F wr 59 (.string nm::(An (g 2 R)++(.bool rv::(c0++An rc)))) Y->VE G ((bl++ob (.slice va vn vc))++[wr.heap.size]) Y [c0] [e0]->J ((bb&&q 2 R)&&qc) Y->K2 ⟨JL id caps w u z (.slice (some (aV bq oq)) n c) n i wr.heap.size,[]⟩ Y):=yb (by
    intro z Y hT hE hj
    clear A C M
    have A:=yb hT;have M:=yb hE;have C:=yb hj
    clear hT hE hj
    unfold JL
    refine ch.o _ _ ?_
    have c6:=yb (A.o.part (p:=(.string nm::(An (g 2 R)++(.bool rv::([]:LV))))) (m:=c0) (q:=An rc) (off:=4) (by simp) (by simp[A8]))
    have bi:=M.o.1
    have bt:=yb bi.len
    have au:=yb (Bn HC.o e0 (FL G ((bl++ob (.slice va vn vc))++[wr.heap.size])) (((bb&&q 2 R)&&qc)) Y c0 az C.o bi (fun k hk=>.inl (Z.o k hk)) (fun k hk=>by
     have h1:=A.o.lt;have h2:=O.o
     rcases hk with hk|hk
     ·have:=HG.o k hk;omega
     ·have:=(cl.o k hk).2;omega))
    clear bi
    go_upto_region 36 with (first
     |(with_reducible refine ym rfl 26 _ rfl wr.heap.size 4 (by kernel_rfl) c0 _ c6.o qD (by kernel_rfl) (Ci bt.o) ?_)
     |(go_at_call 65;refine au.o.mono ?_;rintro e X4 ⟨res,rfl,cm,cr,bn⟩;have a6:=yb cm;have ck:=yb cr;have a2:=yb bn;have bj:=yb (A.o.call (fun k hk=>by have:=H.o k hk;have:=O.o;omega) bn);clear cm cr bn)
     |(with_reducible refine CW rfl 26 _ _ rfl wr.heap.size 4 (by kernel_rfl) res (by kernel_rfl) (p:=(.string nm::(An (g 2 R)++(.bool rv::([]:LV))))) (m:=c0) (q:=An rc) (t:=59) (by have h:=bj.o.row;simpa[yp] using h) (by simp[A8]) (by rw[bt.o,a6.o.len]) (Ci a6.o.len) (Ao a6.o) ?_;intro X5 bw;have ag:Hid (Au X4 X5 wr.heap.size (.string nm::(An (g 2 R)++(.bool rv::(res++An rc)))) 59):=yb (by simpa[yp] using bw);clear bw))
    have hT:=bj.o.wrote ag.o
    have HR:Hid (AS (GF (FL G ((bl++ob (.slice va vn vc))++[wr.heap.size])) X5) X5 (AQ g e0) res):=yb (a6.o.fl (ag.o.flux (.inr (by simp[a2.o]))) (fun _ h=>.inl h))
    have hj:=HC.o.stab _ _ _ ck.o (fun k hk=>ag.o.block k (by have:=H.o k hk;have:=O.o;omega)) (by rw[ag.o.size];exact yf _)
    clear A bj C ck M a6 a2 ag c6 bt au
    have A:=yb hT;have C:=yb hj
    clear hT hj
    obtain ⟨a1,bd⟩:∃r:LV,r=(.string nm::(An (g 2 R)++(.bool rv::(res++An rc)))):=⟨_,rfl⟩
    rw[<-bd] at A
    have ax:Hid (E7 (GF (FL G (bl++ob (.slice va vn vc))) X5) X5 a1 (DJ g ⟨nm,R,rv,e0,X⟩)):=yb (by
     rw[bd]
     have x0:AS (GF (FL G (bl++ob (.slice va vn vc))) X5) X5 (AQ g e0) res:=HR.o.fl (BM.refl _ _) (fun k hk=>.inl (yi.2 (.inl hk)))
     exact ⟨dj.o,HC.o.name _ _ cj.o,by rw[show (DJ g (⟨nm,R,rv,e0,X⟩:Bd)).crop=rc by rw[aq.o];rfl];exact dm.o,_,by rw[aq.o];rfl,x0⟩)
    clear bd HR
    have ap:=yb (JI ax.o).1;have dv:=yb (JI ax.o).2
    have cv:Hid (MS F w cs (P++(.slice va vn vc:: ja)) X5):=yb (E.o.ms.up H.o O.o A.o.bx)
    have e4:X5.cell? (aV (w.heap.size+2) 22)=some (.slice va vn vc):=cv.o.cellx rfl cz.o
    have c3:Hid (BM (FL G (bl++ob (.slice va vn vc))) wr X5):=yb (A.o.bx.flux (yf _) (fun k hk=>.inl (Z.o k hk)))
    have bz:=E.o.grow.up (l':=bl) D0 c3.o (fun k hk=>A.o.bx.block k (E.o.grow.lt k hk).2 (fun h=>by have:=H.o k h;have:=(E.o.grow.lt k hk).1;have:=f.o;omega)) (fun _ h=>.inl h)
    obtain ⟨rows,aj,ce,a7⟩:=bz.own
    have dr:=yb aj;have dk:=yb ce;have c8:=yb a7
    have ae:Hid (Bs<=X5.heap.size):=yb (yl cd.o A.o.bx.size)
    have c7:Hid ((X5.alloc (.cells a1.toArray 59)).ownsRow Bs 59 12 (.slice va vn vc) rows.length rows.flatten):=yb (BH aj fun k hk=>((yg _ _).alloc (yf _) _).block k (FB aj k hk).2)
    have bv:Hid (rows.length+1<=1000000):=yb (by rw[Az.length a7,du.o];exact df.o)
    have d5:Hid (Bs<=(X5.alloc (.cells a1.toArray 59)).heap.size):=yb (by have:=ae.o;simp;omega)
    clear aj ce a7 bz
    go_upto_region 37 with (first
     |(with_reducible refine ym rfl 59 _ rfl wr.heap.size 0 (by kernel_rfl) a1 _ (Aw A.o.row) qV (by kernel_rfl) (AU (n:=12) (by kernel_rfl) ap.o) ?_)
     |(with_reducible refine Cc rfl 30 59 _ rfl a1 (by kernel_rfl) 12 qI (by kernel_rfl) ap.o (by omega) (by omega) ?_)
     |(at_builtin;refine BA qI rfl _ _ rfl 12 (by kernel_rfl) (by omega) Bs (.slice va vn vc) rows.length rows.flatten (by kernel_rfl) c7.o X5.heap.size 1 a1 (by kernel_rfl) (World.alloc_heap_new _ _) ap.o dv.o bv.o d5.o ?_;intro vx x8 ad bu d2;obtain ⟨xa,xn,xc,rfl⟩:=CY ad;have Q:=yb (D5 D0 c8.o dk.o dr.o ax.o ap.o ad bu d2 ae.o);have av:=yb (cv.o.up H.o f.o (.of Q.o.below));clear ad bu d2)
     |(with_reducible refine Al rfl 30 _ _ rfl (w.heap.size+2) 22 (by kernel_rfl) (.slice xa xn xc) (by kernel_rfl) (by kernel_rfl) (p:=P) (m:=.slice va vn vc) (q:= ja) (t:=35) av.o.x cz.o (by kernel_rfl) (by kernel_rfl) ?_;intro x9 c5;have S:=yb c5;clear c5))
    go_wp2
    have dt:Hid (I (i+1) x9):=yb (by
     rw[HI.o]
     refine ⟨.slice xa xn xc,av.o.wrote S.o,?_,?_,?_,?_⟩
     ·rw[show (b&&(x.farms.take (i+1)).all (Gv q))=(((bb&&q 2 R)&&qc)&&Bh q e0) by rw[am.o];simp only[Gv,zc];rw[aw.o]]
      exact HC.o.stab _ _ _ C.o (fun k hk=>(S.o.block k (by have:=H.o k hk;omega)).trans (Q.o.below.block k (by have:=H.o k hk;have:=f.o;omega))) (by rw[S.o.size];exact Q.o.flux.1)
     ·exact ((E.o.got.flux c3.o (fun _ h=>.inl h) (fun x s hm=>A.o.bx.block x (by have:=(ac.o x hm).2;have:=cd.o;omega) (fun h=>by have:=H.o x h;omega))).flux Q.o.flux (JC Q.o.obs) (fun x _ hm=>Q.o.below.block x (ac.o x hm).2)).flux (S.o.flux (.inr (by simp[a2.o]))) (fun _ h=>.inl h) (fun x s _=>S.o.block x (by omega))
     ·have h:=Q.o.grow.up (l':=bl) D0 (S.o.flux (.inr (by simp[a2.o]))) (fun k hk=>S.o.block k (by have:=(Q.o.grow.lt k hk).1;have:=f.o;omega)) (fun _ h=>.inl h)
      rw[<-bg.o] at h
      exact h
     ·exact yl ae.o (by rw[S.o.size];exact Q.o.flux.1))
    exact ⟨⟨i+1,by push_cast;rfl,by omega,dt⟩,by simp[intOf];omega⟩)
   clear ch
   have e3:X2.cell? (aV wr.heap.size 3)=some (.bool rv):=CL (A.o.part (p:=(.string nm::(An (g 2 R)++([]:LV)))) (m:=[.bool rv]) (q:=(c0++An X)) (by simp) (by simp[A8]))
   by_cases T:rv=true
   ·obtain rfl:=T
    go_wp2
    refine KB (id:=id) (caps:=caps) (w:=w) (u:=u) (v:=.slice (some (aV bq oq)) n c) (n:=n) (i:=i) (B:=wr.heap.size) (P:=fun l=>K2 ⟨l,[]⟩ X2) ?_ (by kernel_rfl)
    exact aa.o _ _ (by rw[show rc=X by rw[aq.o];first|exact yw rfl|exact yw T|exact yw trivial|simp];exact A.o) M.o (by rw[show qc=true by rw[aw.o];first|exact yw rfl|exact yw T|exact yw trivial|simp,yX];exact C.o)
   ·obtain rfl:rv=false:=by simpa using T
    have cq:=yb (M.o.1).len
    have ao:=yb (HC.o.call ((bb&&q 2 R)) X2 1 wr.heap.size 10 (.string nm::(An (g 2 R)++(.bool false::(c0++([]:LV))))) X ([]:LV) 59 C.o (by have h:=A.o.row;simpa[yp] using h) (by simp[A8,cq.o]) cf.o b9.o (by decide) (by decide))
    go_wp2
    rw[HC.o.enter,zW]
    refine ao.o.mono ?_
    rintro e X9 ⟨rfl,hj,s⟩
    have V:WX F X2 X9 wr.heap.size (.string nm::(An (g 2 R)++(.bool false::(c0++An (g 1 X))))) 59:=by simpa[yp] using s
    have hT:=A.o.cb V;have hE:=M.o.cb V Z.o (by simp)
    have de:=yb hT;have dd:=yb hE;have db:=yb hj
    clear hT hE hj V s
    go_wp2
    refine KB (id:=id) (caps:=caps) (w:=w) (u:=u) (v:=.slice (some (aV bq oq)) n c) (n:=n) (i:=i) (B:=wr.heap.size) (P:=fun l=>K2 ⟨l,[]⟩ X9) ?_ (by kernel_rfl)
    exact aa.o _ _ (by rw[show rc=g 1 X by rw[aq.o];first|exact yu T|exact yu (fun h=>h)|simp[T]];exact de.o) dd.o (by rw[show qc=q 1 X by rw[aw.o];first|exact yu T|exact yu (fun h=>h)|simp[T]];exact db.o)
  ·obtain rfl:i=n:=by omega
   have dh:decide ((i:Int) < (i:Int))=false:=by simp
   have HQ:Hid (J (b&&x.farms.all (Gv q)) wr):=yb (by have h:=E.o.j;simp only[af.o,yx] at h;exact h)
   have co:DV E7 59 12 Bs G bl wr (.slice va vn vc) (x.farms.map (DJ g)):=by have h:=E.o.grow;simp only[af.o,yx] at h;exact h
   obtain ⟨hd,cw,d0,al⟩:=co.XQ (by have:=b3.o;simp;omega)
   rw[cw] at E
   have d4:=yb E.o.bs
   have d8:Hid (Bp 4 (w.heap.size+3) (bl++ob hd.v) (GF (FL G (bl++ob hd.v)) wr) wr c0 c1 c2 h0 h1 h2 hd ⟨none,0,0⟩ ⟨none,0,0⟩ ⟨none,0,0⟩ (⟨y.name,y.season,y.cap,y.start,y.lets,y.crops,y.reaches,(x.farms.map (DJ g)),y.rots,y.rights,y.duties⟩:Am)):=yb (by
    have h:=E.o.got
    have hz:=h.set (j:=3) (d:=ob hd.v) (fun x s=>(ac.o x s).2) f.o (fun x s=>(al x s).1) (fun x s=>(al x s).2) (by
     intro i hi dy
     obtain rfl|rfl|rfl:i=4∨i=5∨i=6:=by omega
     all_goals rfl)
    exact ⟨h.name,h.e0,h.e1,h.e2,fun hk=>h.lets (by omega),fun hk=>h.crops (by omega),fun hk=>h.reaches (by omega),fun _=>d0,fun hk=>absurd hk (by omega),fun hk=>absurd hk (by omega),fun hk=>absurd hk (by omega),hz.1,fun d hd x s=>(hz.2 d hd x s).1,fun d hd x s=>(hz.2 d hd x s).2⟩)
   have di:=yb E.o.ms
   have da:Hid (Jj (bl++ob hd.v) wr.heap.size w wr):=yb ⟨yl f.o d4.o,yf _,fun x s=>by
    rcases yi.1 s with s|s
    ·have:=ac.o x s;have:=d4.o;omega
    ·have h1:=(al x s).1;have h2:=(E.o.grow.lt x s).2;have:=f.o;omega,yi.2 (.inl d7.o),yi.2 (.inl dl.o),yi.2 (.inl a2.o)⟩
   clear co cw d0 E al
   go_wp2
   refine hK.o _ _ ?_
   refine Gu (P:=fun l=>Code.wp Try.prog _ _ ⟨l,[]⟩ wr) rfl ?_
   refine Xk (bl:=bl++ob hd.v) (Bs:=wr.heap.size) (y:=(⟨y.name,y.season,y.cap,y.start,y.lets,y.crops,y.reaches,(x.farms.map (DJ g)),y.rots,y.rights,y.duties⟩:Am)) da.o HC.o HV.o ca.o Z.o HG.o ?_ (by have h:=di.o;rw[d6.o] at h;simpa[yp] using h) d8.o HQ.o
   exact ⟨rfl,rfl,rfl,rfl⟩
set_option linter.unusedSimpArgs false
set_option linter.unusedSimpArgs false
set_option linter.unusedSimpArgs false
def Df(g:Int->Rf->Rf)(x:Am):Am:=⟨x.name,AQ g x.season,AQ g x.cap,AQ g x.start,x.lets.map (Hu g),x.crops.map (Ek g),x.reaches.zipIdx.map (fun p=>Cj g p.2 p.1),x.farms.map (DJ g),x.rots.map (Fm g),x.rights.map (Ck g),x.duties.map (Dz g)⟩
def XE(q:Int->Rf->Bool)(b:Bool)(x:Am):Bool:=(((((((((b&&Bh q x.season)&&Bh q x.cap)&&Bh q x.start)&&x.lets.all (M8 q))&&x.crops.all (I1 q))&&x.reaches.zipIdx.all (fun p=>F4 q p.2 p.1))&&x.farms.all (Gv q))&&x.rots.all (Ji q))&&x.rights.all (E5 q))&&x.duties.all (Fo q)
end Go.Proofs.Ytghepahgkcigpaa
