/- The law's mapped: its loop over reaches (printed by gen_af.py). -/
import Derived.Test.YtghepahgkcigpaaRg0
import Derived.Test.YtghepahgkcigpaaRg23
import Derived.Deep.CutBlock
set_option maxHeartbeats 64000000
set_option maxRecDepth 100000
set_option linter.unusedSimpArgs false
namespace Go.Proofs.Ytghepahgkcigpaa
open Go.RowKit
set_option linter.unusedSimpArgs false
def IB(id:Nat)(caps:Array Value)(w:World)(u z:Nat->Value)(v:Value)(n i B:Nat):Array Value:=#[u 0,.func (.func id) #[] caps,.pointer (some ⟨w.heap.size,0,none⟩),u 3,.pointer (some ⟨w.heap.size+1,0,none⟩),.pointer (some ⟨w.heap.size+2,0,none⟩),u 6,u 7,u 8,u 9,z 10,.pointer (some ⟨B,0,none⟩),z 12,u 13,u 14,u 15,u 16,u 17,u 18,u 19,u 20,u 21,u 22,u 23,u 24,u 25,u 26,u 27,u 28,u 29,u 30,u 31,u 32,u 33,u 34,u 35,u 36,u 37,u 38,u 39,u 40,u 41,u 42,u 43,u 44,u 45,u 46,u 47,u 48,u 49,u 50,u 51,u 52,u 53,u 54,u 55,u 56,u 57,u 58,u 59,u 60,u 61,u 62,u 63,u 64,u 65,u 66,u 67,u 68,u 69,u 70,u 71,u 72,u 73,u 74,u 75,u 76,u 77,u 78,u 79,u 80,u 81,u 82,u 83,u 84,.pointer (some ⟨w.heap.size,21,none⟩),v,.int .i64 n,.int .i64 i,z 89,z 90,z 91,z 92,z 93,z 94,z 95,z 96,z 97,z 98,z 99,z 100,z 101,z 102,z 103,z 104,z 105,z 106,z 107,z 108,z 109,z 110,z 111,z 112,z 113,z 114,z 115,z 116,z 117,z 118,z 119,z 120,z 121,z 122,z 123,z 124,z 125,z 126,z 127,z 128,z 129,z 130,z 131,z 132,z 133,z 134,z 135,z 136,z 137,z 138,z 139,z 140,z 141,z 142,z 143,z 144,z 145,z 146,u 147,u 148,u 149,u 150,u 151,u 152,u 153,u 154,u 155,u 156,u 157,u 158,u 159,u 160,u 161,u 162,u 163,u 164,u 165,u 166,u 167,u 168,u 169,u 170,u 171,u 172,u 173,u 174,u 175,u 176,u 177,u 178,u 179,u 180,u 181,u 182,u 183,u 184,u 185,u 186,u 187,u 188,u 189,u 190,u 191,u 192,u 193,u 194,u 195,u 196,u 197,u 198,u 199,u 200,u 201,u 202,u 203,u 204,u 205,u 206,u 207,u 208,u 209,u 210,u 211,u 212,u 213,u 214,u 215,u 216,u 217,u 218,u 219,u 220,u 221,u 222,u 223,u 224,u 225,u 226,u 227,u 228,u 229,u 230,u 231,u 232,u 233,u 234,u 235,u 236,u 237,u 238,u 239,u 240,u 241,u 242,u 243,u 244,u 245,u 246,u 247,u 248,u 249,u 250,u 251,u 252,u 253,u 254,u 255,u 256,u 257,u 258,u 259,u 260,u 261,u 262,u 263,u 264,u 265,u 266,u 267,u 268,u 269,u 270,u 271,u 272,u 273,u 274,u 275,u 276,u 277,u 278,u 279,u 280,u 281,u 282,u 283,u 284,u 285,u 286,u 287,u 288,u 289,u 290,u 291,u 292,u 293,u 294,u 295,u 296,u 297,u 298,u 299,u 300,u 301,u 302]
theorem Jg{id:Nat}{caps:Array Value}{w:World}{u:Nat->Value}{v:Value}{n i B:Nat}{P:Array Value->Prop}{l:Array Value}(h:P (IB id caps w u (fun k=>l.getD k undef) v n i B))(e:IB id caps w u (fun k=>l.getD k undef) v n i B=l):P l:=e▸h
theorem TF{id:Nat}{caps:Array Value}{F G:NP}{J:Bool->World->Prop}{g:Int->Rf->Rf}{q:Int->Rf->Bool}{b:Bool}{w W:World}{cs:LV}{u:Nat->Value}{x y:An}{L:Bh}{c0 c1 c2:LV}{h0 h1:Av}(hc:Jo id caps F g q J)(hv:B8 (GF G w) w L cs x)(cj:Sh x)(ck:∀k,F k->G k)(hG:∀k,G k->k < w.heap.size)(hu:UF id caps w u)
 (hS:MS F w cs (.string y.name::(c0++(c1++(c2++[h0.v,h1.v,.slice none 0 0,.slice none 0 0,.slice none 0 0,.slice none 0 0,.slice none 0 0])))) W)(hY:Dl 2 (GF (FL G [w.heap.size,w.heap.size+1,w.heap.size+2]) W) W c0 c1 c2 h0 h1 ⟨none,0,0⟩ ⟨none,0,0⟩ ⟨none,0,0⟩ ⟨none,0,0⟩ ⟨none,0,0⟩ y)(hJ:J b W):
  Code.wp Try.prog (CP 6 (Try.f17.body.getD .skip)) (bodyPost Try.prog Try.f17 (MP F G J (((((b&&x.reaches.zipIdx.all (fun p=>Eg q p.2 p.1))&&x.farms.all (FD q))&&x.rots.all (I8 q))&&x.rights.all (Dn q))&&x.duties.all (ED q)) (⟨y.name,y.season,y.cap,y.start,y.lets,y.crops,(x.reaches.zipIdx.map (fun p=>CM g p.2 p.1)),(x.farms.map (DH g)),(x.rots.map (Ge g)),(x.rights.map (Cx g)),(x.duties.map (Du g))⟩:An) w)) {tmps:=J0 u,defers:=[]} W:=by
 have du:∀k,F k->k < w.heap.size:=fun k A=>hG k (ck k A)
 obtain ⟨⟨a,n,c⟩,hL⟩:∃h:Av,L.reaches=h:=⟨_,rfl⟩
 obtain ⟨s0,s1,s2,df,g0,g1,g2⟩:=hv.cells
 have cy:W.cell? (aV w.heap.size 21)=some (.slice a n c):=by
  refine hS.cell (p:=.string x.name::(s0++(s1++(s2++[L.lets.v,L.crops.v])))) (q:=[L.farms.v,L.rots.v,L.rights.v,L.duties.v]) ?_ (by simp[g0.len,g1.len,g2.len])
  rw[df,hL]
  simp[yl,Av.v]
 have cw:Az (GF G w) w 51 (CG (GF G w) w) ⟨a,n,c⟩ x.reaches:=hL▸hv.reaches
 have eu:=yb cw.2.2
 have bj:Hid (n=x.reaches.length):=yb cw.1
 have cz:Hid (x.reaches.length<=100000):=yb cj.slim.reaches
 have HN:Hid (n<=140737488355328):=yb (by have:=bj.o;have:=cz.o;omega)
 obtain ⟨P,hP⟩:∃P:LV,P=.string y.name::(c0++(c1++(c2++[h0.v,h1.v]))):=⟨_,rfl⟩
 have dm:Hid (P.length=21):=yb (by rw[hP];simp[hY.e0.len,hY.e1.len,hY.e2.len])
 have dt:MS F w cs (P++(.slice none 0 0:: qV)) W:=by rw[hP];simpa[yl] using hS
 obtain ⟨I,hI⟩:∃I:Nat->World->Prop,I=fun i W=>∃v,MI CG 51 51 F G J b w cs P qV (fun N W=>Dl 2 N W c0 c1 c2 h0 h1 ⟨none,0,0⟩ ⟨none,0,0⟩ ⟨none,0,0⟩ ⟨none,0,0⟩ ⟨none,0,0⟩ y) (fun i=>(x.reaches.zipIdx.take i).all (fun p=>Eg q p.2 p.1)) (fun i=>(x.reaches.zipIdx.take i).map (fun p=>CM g p.2 p.1)) i v W:=⟨_,rfl⟩
 have dp:Hid (I 0 W):=yb (by
  rw[hI]
  exact ⟨_,dt,by simpa using hJ,by simpa[ob,Value.ownBlock] using hY,by simpa using DQ⟩)
 have HI:=yb hI;have HV:=yb hv;have HC:=yb hc;have db:=yb cj;have aa:=yb ck;have HG:=yb hG;have aw:=yb du;have ee:=yb hP;have HU:=yb hu;have f4:=yb hY.name
 rw[FB,hu.u1,hu.u2,hu.u4,hu.u5]
 clear hv cj hc ck hG du hS hY hJ hP hL df g0 g1 g2 cw dt hI hu
 refine Ag fun K T=>?_
 go_wp2
 go_loopw [88] (fun iv wr=>∃i:Nat,iv=iV i∧i<=n∧Hid (I i wr)) (fun iv _=>n - (intOf iv).toNat)
 case atStart=>exact ⟨0,rfl,yz _,dp⟩
 case round=>
  clear dp cy
  obtain ⟨i,rfl,hi,bk⟩:=hrel
  obtain ⟨v,hM⟩:∃v,MI CG 51 51 F G J b w cs P qV (fun N W=>Dl 2 N W c0 c1 c2 h0 h1 ⟨none,0,0⟩ ⟨none,0,0⟩ ⟨none,0,0⟩ ⟨none,0,0⟩ ⟨none,0,0⟩ y) (fun i=>(x.reaches.zipIdx.take i).all (fun p=>Eg q p.2 p.1)) (fun i=>(x.reaches.zipIdx.take i).map (fun p=>CM g p.2 p.1)) i v wr:=by have h:=bk.o;rw[HI.o] at h;exact h
  obtain ⟨va,vn,vc,rfl⟩:=hM.grow.slice
  have HM:=yb hM
  clear bk hM
  have f0:n<=140737488355328:=HN.o
  by_cases ek:i < n
  ·have bt:i < x.reaches.length:=by rw[<-bj.o];exact ek
   have eg:(i:Int) < (n:Int):=by omega
   obtain ⟨bq,oq,ct,he,bw,dy,bu,cl⟩:=eu.o i bt
   obtain rfl:a=some (aV bq oq):=he
   have cd:Hid ((b&&(x.reaches.zipIdx.take (i+1)).all (fun p=>Eg q p.2 p.1))=((b&&(x.reaches.zipIdx.take i).all (fun p=>Eg q p.2 p.1))&&Eg q i x.reaches[i])):=yb (by
    rw[PK bt,zh,ze,zu,yT,<-zc])
   have cn:Hid ((x.reaches.zipIdx.take (i+1)).map (fun p=>CM g p.2 p.1)=(x.reaches.zipIdx.take i).map (fun p=>CM g p.2 p.1)++[CM g i x.reaches[i]]):=yb (by rw[PK bt,zb];rfl)
   have ey:Hid (i+1<=1000000):=yb (by have:=bj.o;have:=cz.o;omega)
   have ax:=yb (db.o.reaches _ (yy bt))
   have ec:Hid (((x.reaches.zipIdx.take i).map (fun p=>CM g p.2 p.1)).length=i):=yb (by simp;omega)
   generalize hD:x.reaches[i]=D at cl cd cn ax
   clear hD
   generalize dq:(b&&(x.reaches.zipIdx.take i).all (fun p=>Eg q p.2 p.1))=bb at cd
   have HJ:Hid (J bb wr):=yb (by rw[<-dq];exact HM.o.j)
   clear dq
   have d1:=yb (IZ cl).2
   have b7:=yb dy
   obtain ⟨nm,dn,e0,e1,e2,e3,e4,e5,e6,e7⟩:=D
   obtain ⟨cx,d5,c0,c1,c2,c3,c4,c5,c6,c7,rfl,x0,x1,x2,x3,x4,x5,x6,x7⟩:=cl
   simp only at bu b7 d1 cd cn ax cx d5 x0 x1 x2 x3 x4 x5 x6 x7
   obtain ⟨ct,bm⟩:∃ct:LV,ct=(.string nm::(Ah dn++(c0++(c1++(c2++(c3++(c4++(c5++(c6++c7))))))))):=⟨_,rfl⟩
   rw[<-bm] at bu b7 d1
   have ea:=yb bm
   have eh:=yb cx
   have d0:=yb d5
   have d7:Hid (wr.rangeAt bq (oq+i*51) ct):=yb (A2 bu (HM.o.ms.bx.block bq bw.2 (fun k=>bw.1 (aa.o _ k))))
   have f3:Hid (bq < wr.heap.size):=yb (yp bw.2 HM.o.ms.bx.size)
   have da:Hid (At (fun c e=>AP (GF G w) w e c) [c0,c1,c2,c3,c4,c5,c6,c7] [e0,e1,e2,e3,e4,e5,e6,e7]):=yb ⟨x0,x1,x2,x3,x4,x5,x6,x7,trivial⟩
   have b5:Hid (∀k∈(([w.heap.size,w.heap.size+1,w.heap.size+2]++ob (.slice va vn vc))++[wr.heap.size]),w.heap.size<=k∧k<=wr.heap.size):=yb (by
    have h1:=HM.o.ms.lt
    intro k A
    rcases yo.1 A with A|A
    ·rcases yo.1 A with A|A
     ·simp at A;omega
     ·have:=HM.o.grow.lt k A;omega
    ·simp at A;omega)
   have a7:=yb HM.o.ms.lt
   have ed:Hid (¬ F wr.heap.size):=yb (fun h=>by have:=aw.o _ h;have:=a7.o;omega)
   clear bm bu bw dy cx d5 x0 x1 x2 x3 x4 x5 x6 x7
   go_upto_block 5 with fail
   refine wp_block ?_
   refine Ag fun K1 dl=>?_
   go_wp2_with (first
    |(with_reducible refine yj rfl 51 _ rfl bq (oq+i*51) (by kernel_rfl) ct _ d7.o qG (by kernel_rfl) (BW (n:=51) (by kernel_rfl) b7.o) ?_)
    |(with_reducible refine Aj rfl 51 _ _ rfl wr.heap.size (by kernel_rfl) ct (by kernel_rfl) (World.alloc_heap_new _ _) (by rw[yB,b7.o];kernel_rfl) (BW (n:=51) (by kernel_rfl) b7.o) d1.o ?_;intro X1 dg;have bv:=yb dg;clear dg))
   refine dl.o _ _ ?_
   clear dl
   have f:Hid (TB F wr 51 (.string nm::(Ah dn++(c0++(c1++(c2++(c3++(c4++(c5++(c6++c7))))))))) X1):=yb (by rw[<-ea.o];exact EE bv.o)
   have s:Hid (J bb X1):=yb (HC.o.stab _ _ _ HJ.o (fun k A=>(AB bv.o).block k (by have:=aw.o k A;have:=a7.o;omega)) (AB bv.o).size)
   have d:Hid (VE G (([w.heap.size,w.heap.size+1,w.heap.size+2]++ob (.slice va vn vc))++[wr.heap.size]) X1 [c0,c1,c2,c3,c4,c5,c6,c7] [e0,e1,e2,e3,e4,e5,e6,e7]):=yb (At.mono (fun _ _ h=>h.flux ((HM.o.ms.bx.trans (f.o.bx.mono HM.o.ms.bx.size)).flux (ye _) aa.o) (fun k A=>A.imp (fun h=>h) (fun h=>(b5.o k h).1))) da.o)
   clear bv d7 da
   obtain ⟨rc,cq⟩:∃r:Rf,r=if i=0 then dn else g 2 dn:=⟨_,rfl⟩
   obtain ⟨qc,de⟩:∃r:Bool,r=if i=0 then true else q 2 dn:=⟨_,rfl⟩
   have bs:=yb cq;have co:=yb de
   have e9:Hid (rc.name.size<=maxLen):=yb (by rw[cq];split;exact d0.o;exact HC.o.name _ _ d0.o)
   clear cq de
   refine Ag fun K2 dw=>?_
   have bi:Hid (∀(z:Nat->Value) (Y:World),TB F wr 51 (.string nm::(Ah rc++(c0++(c1++(c2++(c3++(c4++(c5++(c6++c7))))))))) Y->VE G (([w.heap.size,w.heap.size+1,w.heap.size+2]++ob (.slice va vn vc))++[wr.heap.size]) Y [c0,c1,c2,c3,c4,c5,c6,c7] [e0,e1,e2,e3,e4,e5,e6,e7]->J (bb&&qc) Y->K2 ⟨IB id caps w u z (.slice (some (aV bq oq)) n c) n i wr.heap.size,[]⟩ Y):=yb (by
    intro z Y S U hj
    clear f s d
    have f:=yb S;have d:=yb U;have s:=yb hj
    clear S U hj
    unfold IB
    refine dw.o _ _ ?_
    refine Ag fun K3 eb=>?_
    obtain ⟨RW,av⟩:∃r:LV,r=(.string nm::(Ah rc++(c0++(c1++(c2++(c3++(c4++(c5++(c6++c7))))))))):=⟨_,rfl⟩
    have ag:=yb av
    rw[<-av] at f
    clear av
    obtain ⟨w0,w1,w2,w3,w4,w5,w6,w7,_⟩:=d.o
    have ak:=yb w0.len
    have ai:=yb w1.len
    have ah:=yb w2.len
    have aj:=yb w3.len
    have au:=yb w4.len
    have ap:=yb w5.len
    have aq:=yb w6.len
    have ar:=yb w7.len
    clear w0 w1 w2 w3 w4 w5 w6 w7
    have S:=f.o.drew;have U:=d.o.drew;have hj:=HC.o.stab _ _ Y.drew s.o (fun _ _=>rfl) (ye _)
    clear f d s
    have f:=yb S;have d:=yb U;have s:=yb hj
    clear S U hj
    have a1:Hid (∀k,F k->k < wr.heap.size):=yb (fun k A=>by have:=aw.o k A;have:=a7.o;omega)
    refine wp_region_noPanic ?_
    refine BT (by kernel_rfl) (fun W=>W.heap[wr.heap.size]?=some (.cells RW.toArray 51 (0,0))) 17 ?_
    refine A0 (i:=0) (v:=pV wr.heap.size 3) rfl (by kernel_rfl) (by kernel_rfl) (by kernel_rfl) (fun _ _ _ h=>h) (by kernel_rfl) (Or.inl ⟨by rfl,?_⟩) (fun _=>f.o.row) ?_
    ·intro w _;go_simp
    refine Ae (i:=1) (v:=.agg (c0).toArray) rfl (by kernel_rfl) (by kernel_rfl) (by kernel_rfl) (fun _ _ _ h=>h) (by kernel_rfl) (yK (by rfl) 26 _ rfl (wr.heap.size) 3 (by kernel_rfl) (c0) _ (fun W hW=>BE hW (p:=(.string nm::(Ah rc++([]:LV)))) (q:=(c1++(c2++(c3++(c4++(c5++(c6++c7))))))) (by rw[ag.o];simp) (by simp[A7,ak.o,ai.o,ah.o,aj.o,au.o,ap.o,aq.o,ar.o])) qq rfl (BV ak.o)) f.o.row ?_
    refine A0 (i:=2) (v:=.func (.func id) #[] caps) rfl (by kernel_rfl) (by kernel_rfl) (by kernel_rfl) (fun _ _ _ h=>h) (by kernel_rfl) (Or.inl ⟨by rfl,?_⟩) (fun _=>f.o.row) ?_
    ·intro w _;go_simp
    refine A0 (i:=4) (v:=pV wr.heap.size 9) rfl (by kernel_rfl) (by kernel_rfl) (by kernel_rfl) (fun _ _ _ h=>h) (by kernel_rfl) (Or.inl ⟨by rfl,?_⟩) (fun _=>f.o.row) ?_
    ·intro w _;go_simp
    refine Ae (i:=5) (v:=.agg (c1).toArray) rfl (by kernel_rfl) (by kernel_rfl) (by kernel_rfl) (fun _ _ _ h=>h) (by kernel_rfl) (yK (by rfl) 26 _ rfl (wr.heap.size) 9 (by kernel_rfl) (c1) _ (fun W hW=>BE hW (p:=(.string nm::(Ah rc++(c0++([]:LV))))) (q:=(c2++(c3++(c4++(c5++(c6++c7)))))) (by rw[ag.o];simp) (by simp[A7,ak.o,ai.o,ah.o,aj.o,au.o,ap.o,aq.o,ar.o])) qq rfl (BV ai.o)) f.o.row ?_
    refine A0 (i:=6) (v:=.func (.func id) #[] caps) rfl (by kernel_rfl) (by kernel_rfl) (by kernel_rfl) (fun _ _ _ h=>h) (by kernel_rfl) (Or.inl ⟨by rfl,?_⟩) (fun _=>f.o.row) ?_
    ·intro w _;go_simp
    refine A0 (i:=8) (v:=pV wr.heap.size 15) rfl (by kernel_rfl) (by kernel_rfl) (by kernel_rfl) (fun _ _ _ h=>h) (by kernel_rfl) (Or.inl ⟨by rfl,?_⟩) (fun _=>f.o.row) ?_
    ·intro w _;go_simp
    refine Ae (i:=9) (v:=.agg (c2).toArray) rfl (by kernel_rfl) (by kernel_rfl) (by kernel_rfl) (fun _ _ _ h=>h) (by kernel_rfl) (yK (by rfl) 26 _ rfl (wr.heap.size) 15 (by kernel_rfl) (c2) _ (fun W hW=>BE hW (p:=(.string nm::(Ah rc++(c0++(c1++([]:LV)))))) (q:=(c3++(c4++(c5++(c6++c7))))) (by rw[ag.o];simp) (by simp[A7,ak.o,ai.o,ah.o,aj.o,au.o,ap.o,aq.o,ar.o])) qq rfl (BV ah.o)) f.o.row ?_
    refine A0 (i:=10) (v:=.func (.func id) #[] caps) rfl (by kernel_rfl) (by kernel_rfl) (by kernel_rfl) (fun _ _ _ h=>h) (by kernel_rfl) (Or.inl ⟨by rfl,?_⟩) (fun _=>f.o.row) ?_
    ·intro w _;go_simp
    refine A0 (i:=12) (v:=pV wr.heap.size 21) rfl (by kernel_rfl) (by kernel_rfl) (by kernel_rfl) (fun _ _ _ h=>h) (by kernel_rfl) (Or.inl ⟨by rfl,?_⟩) (fun _=>f.o.row) ?_
    ·intro w _;go_simp
    refine Ae (i:=13) (v:=.agg (c3).toArray) rfl (by kernel_rfl) (by kernel_rfl) (by kernel_rfl) (fun _ _ _ h=>h) (by kernel_rfl) (yK (by rfl) 26 _ rfl (wr.heap.size) 21 (by kernel_rfl) (c3) _ (fun W hW=>BE hW (p:=(.string nm::(Ah rc++(c0++(c1++(c2++([]:LV))))))) (q:=(c4++(c5++(c6++c7)))) (by rw[ag.o];simp) (by simp[A7,ak.o,ai.o,ah.o,aj.o,au.o,ap.o,aq.o,ar.o])) qq rfl (BV aj.o)) f.o.row ?_
    refine A0 (i:=14) (v:=.func (.func id) #[] caps) rfl (by kernel_rfl) (by kernel_rfl) (by kernel_rfl) (fun _ _ _ h=>h) (by kernel_rfl) (Or.inl ⟨by rfl,?_⟩) (fun _=>f.o.row) ?_
    ·intro w _;go_simp
    refine A3 (i:=3) (by kernel_rfl) rfl (fun K T=>?_)
    go_simp
    have V:=yb (B6 HC.o e0 (FL G (([w.heap.size,w.heap.size+1,w.heap.size+2]++ob (.slice va vn vc))++[wr.heap.size])) ((bb&&qc)) Y.drew c0 ax.o.1 s.o (by obtain ⟨w0,w1,w2,w3,w4,w5,w6,w7,_⟩:=d.o;exact w0) (fun k A=>.inl (aa.o k A)) (fun k A=>by
     have h1:=f.o.lt;have h2:=a7.o
     rcases A with A|A
     ·have:=HG.o k A;omega
     ·have:=(b5.o k A).2;omega))
    refine V.o.mono ?_
    rintro e Z0 ⟨C,rfl,Z,a6,a0⟩
    have S:=f.o.call a1.o a0
    have U:VE G (([w.heap.size,w.heap.size+1,w.heap.size+2]++ob (.slice va vn vc))++[wr.heap.size]) Z0 [C,c1,c2,c3,c4,c5,c6,c7] [AM g e0,e1,e2,e3,e4,e5,e6,e7]:=by
     obtain ⟨w0,w1,w2,w3,w4,w5,w6,w7,_⟩:=d.o.bcall a0 aa.o
     exact ⟨Z,w1,w2,w3,w4,w5,w6,w7,trivial⟩
    have ay:=yb Z.len
    refine T.o _ _ (fun _=>S.row) ?_
    clear T K f d s V Z a0
    have f:=yb S;have d:=yb U;have s:=yb a6
    clear S U a6
    refine A3 (i:=7) (by kernel_rfl) rfl (fun K T=>?_)
    go_simp
    have V:=yb (B6 HC.o e1 (FL G (([w.heap.size,w.heap.size+1,w.heap.size+2]++ob (.slice va vn vc))++[wr.heap.size])) (((bb&&qc)&&AV q e0)) Z0 c1 ax.o.2.1 s.o (by obtain ⟨w0,w1,w2,w3,w4,w5,w6,w7,_⟩:=d.o;exact w1) (fun k A=>.inl (aa.o k A)) (fun k A=>by
     have h1:=f.o.lt;have h2:=a7.o
     rcases A with A|A
     ·have:=HG.o k A;omega
     ·have:=(b5.o k A).2;omega))
    refine V.o.mono ?_
    rintro e Z1 ⟨E,rfl,Z,a6,a0⟩
    have S:=f.o.call a1.o a0
    have U:VE G (([w.heap.size,w.heap.size+1,w.heap.size+2]++ob (.slice va vn vc))++[wr.heap.size]) Z1 [C,E,c2,c3,c4,c5,c6,c7] [AM g e0,AM g e1,e2,e3,e4,e5,e6,e7]:=by
     obtain ⟨w0,w1,w2,w3,w4,w5,w6,w7,_⟩:=d.o.bcall a0 aa.o
     exact ⟨w0,Z,w2,w3,w4,w5,w6,w7,trivial⟩
    have az:=yb Z.len
    refine T.o _ _ (fun _=>S.row) ?_
    clear T K f d s V Z a0
    have f:=yb S;have d:=yb U;have s:=yb a6
    clear S U a6
    refine A3 (i:=11) (by kernel_rfl) rfl (fun K T=>?_)
    go_simp
    have V:=yb (B6 HC.o e2 (FL G (([w.heap.size,w.heap.size+1,w.heap.size+2]++ob (.slice va vn vc))++[wr.heap.size])) ((((bb&&qc)&&AV q e0)&&AV q e1)) Z1 c2 ax.o.2.2.1 s.o (by obtain ⟨w0,w1,w2,w3,w4,w5,w6,w7,_⟩:=d.o;exact w2) (fun k A=>.inl (aa.o k A)) (fun k A=>by
     have h1:=f.o.lt;have h2:=a7.o
     rcases A with A|A
     ·have:=HG.o k A;omega
     ·have:=(b5.o k A).2;omega))
    refine V.o.mono ?_
    rintro e Z2 ⟨H,rfl,Z,a6,a0⟩
    have S:=f.o.call a1.o a0
    have U:VE G (([w.heap.size,w.heap.size+1,w.heap.size+2]++ob (.slice va vn vc))++[wr.heap.size]) Z2 [C,E,H,c3,c4,c5,c6,c7] [AM g e0,AM g e1,AM g e2,e3,e4,e5,e6,e7]:=by
     obtain ⟨w0,w1,w2,w3,w4,w5,w6,w7,_⟩:=d.o.bcall a0 aa.o
     exact ⟨w0,w1,Z,w3,w4,w5,w6,w7,trivial⟩
    have b4:=yb Z.len
    refine T.o _ _ (fun _=>S.row) ?_
    clear T K f d s V Z a0
    have f:=yb S;have d:=yb U;have s:=yb a6
    clear S U a6
    refine A3 (i:=15) (by kernel_rfl) rfl (fun K T=>?_)
    go_simp
    have V:=yb (B6 HC.o e3 (FL G (([w.heap.size,w.heap.size+1,w.heap.size+2]++ob (.slice va vn vc))++[wr.heap.size])) (((((bb&&qc)&&AV q e0)&&AV q e1)&&AV q e2)) Z2 c3 ax.o.2.2.2.1 s.o (by obtain ⟨w0,w1,w2,w3,w4,w5,w6,w7,_⟩:=d.o;exact w3) (fun k A=>.inl (aa.o k A)) (fun k A=>by
     have h1:=f.o.lt;have h2:=a7.o
     rcases A with A|A
     ·have:=HG.o k A;omega
     ·have:=(b5.o k A).2;omega))
    refine V.o.mono ?_
    rintro e Z3 ⟨M,rfl,Z,a6,a0⟩
    have S:=f.o.call a1.o a0
    have U:VE G (([w.heap.size,w.heap.size+1,w.heap.size+2]++ob (.slice va vn vc))++[wr.heap.size]) Z3 [C,E,H,M,c4,c5,c6,c7] [AM g e0,AM g e1,AM g e2,AM g e3,e4,e5,e6,e7]:=by
     obtain ⟨w0,w1,w2,w3,w4,w5,w6,w7,_⟩:=d.o.bcall a0 aa.o
     exact ⟨w0,w1,w2,Z,w4,w5,w6,w7,trivial⟩
    have b3:=yb Z.len
    refine T.o _ _ (fun _=>S.row) ?_
    clear T K f d s V Z a0
    have f:=yb S;have d:=yb U;have s:=yb a6
    clear S U a6
    rw[ag.o] at f
    refine A3 (i:=16) (by kernel_rfl) rfl (fun K T=>?_)
    go_simp
    refine T.o _ _ (fun _=>by rw[ag.o];exact f.o.row) ?_
    clear T K
    refine A3 (i:=17) (by kernel_rfl) rfl (fun K T=>?_)
    rw[yx (by rfl)]
    refine AE 26 _ _ rfl wr.heap.size 3 (by kernel_rfl) C (by kernel_rfl) (p:=(.string nm::(Ah rc++([]:LV)))) (m:=c0) (q:=(c1++(c2++(c3++(c4++(c5++(c6++c7))))))) (t:=51) (by have h:=f.o.row;simpa using h) (by simp[A7,ak.o,ai.o,ah.o,aj.o,au.o,ap.o,aq.o,ar.o,ay.o,az.o,b4.o,b3.o]) (by rw[ak.o,ay.o]) (BV ay.o) (Ai (by obtain ⟨w0,w1,w2,w3,w4,w5,w6,w7,_⟩:=d.o;exact w0)) ?_
    intro S0 a2
    have O:AF Z3 S0 wr.heap.size (.string nm::(Ah rc++(C++(c1++(c2++(c3++(c4++(c5++(c6++c7))))))))) 51:=by simpa using a2
    refine T.o _ _ (by intro h;cases h) ?_
    have S:=f.o.wrote O;have U:=d.o.wrt O (by simp);have hj:=HC.o.stab _ _ _ s.o (fun k A=>O.block k (by have:=a1.o k A;omega)) (by rw[O.size];exact ye _)
    clear T K f d s a2 O
    have f:=yb S;have d:=yb U;have s:=yb hj
    clear S U hj
    refine A3 (i:=18) (by kernel_rfl) rfl (fun K T=>?_)
    go_simp
    refine T.o _ _ (by intro h;cases h) ?_
    clear T K
    refine A3 (i:=19) (by kernel_rfl) rfl (fun K T=>?_)
    rw[yx (by rfl)]
    refine AE 26 _ _ rfl wr.heap.size 9 (by kernel_rfl) E (by kernel_rfl) (p:=(.string nm::(Ah rc++(C++([]:LV))))) (m:=c1) (q:=(c2++(c3++(c4++(c5++(c6++c7)))))) (t:=51) (by have h:=f.o.row;simpa using h) (by simp[A7,ak.o,ai.o,ah.o,aj.o,au.o,ap.o,aq.o,ar.o,ay.o,az.o,b4.o,b3.o]) (by rw[ai.o,az.o]) (BV az.o) (Ai (by obtain ⟨w0,w1,w2,w3,w4,w5,w6,w7,_⟩:=d.o;exact w1)) ?_
    intro S1 a2
    have O:AF S0 S1 wr.heap.size (.string nm::(Ah rc++(C++(E++(c2++(c3++(c4++(c5++(c6++c7))))))))) 51:=by simpa using a2
    refine T.o _ _ (by intro h;cases h) ?_
    have S:=f.o.wrote O;have U:=d.o.wrt O (by simp);have hj:=HC.o.stab _ _ _ s.o (fun k A=>O.block k (by have:=a1.o k A;omega)) (by rw[O.size];exact ye _)
    clear T K f d s a2 O
    have f:=yb S;have d:=yb U;have s:=yb hj
    clear S U hj
    refine A3 (i:=20) (by kernel_rfl) rfl (fun K T=>?_)
    go_simp
    refine T.o _ _ (by intro h;cases h) ?_
    clear T K
    refine A3 (i:=21) (by kernel_rfl) rfl (fun K T=>?_)
    rw[yx (by rfl)]
    refine AE 26 _ _ rfl wr.heap.size 15 (by kernel_rfl) H (by kernel_rfl) (p:=(.string nm::(Ah rc++(C++(E++([]:LV)))))) (m:=c2) (q:=(c3++(c4++(c5++(c6++c7))))) (t:=51) (by have h:=f.o.row;simpa using h) (by simp[A7,ak.o,ai.o,ah.o,aj.o,au.o,ap.o,aq.o,ar.o,ay.o,az.o,b4.o,b3.o]) (by rw[ah.o,b4.o]) (BV b4.o) (Ai (by obtain ⟨w0,w1,w2,w3,w4,w5,w6,w7,_⟩:=d.o;exact w2)) ?_
    intro S2 a2
    have O:AF S1 S2 wr.heap.size (.string nm::(Ah rc++(C++(E++(H++(c3++(c4++(c5++(c6++c7))))))))) 51:=by simpa using a2
    refine T.o _ _ (by intro h;cases h) ?_
    have S:=f.o.wrote O;have U:=d.o.wrt O (by simp);have hj:=HC.o.stab _ _ _ s.o (fun k A=>O.block k (by have:=a1.o k A;omega)) (by rw[O.size];exact ye _)
    clear T K f d s a2 O
    have f:=yb S;have d:=yb U;have s:=yb hj
    clear S U hj
    refine A3 (i:=22) (by kernel_rfl) rfl (fun K T=>?_)
    go_simp
    refine T.o _ _ (by intro h;cases h) ?_
    clear T K
    refine A3 (i:=23) (by kernel_rfl) rfl (fun K T=>?_)
    rw[yx (by rfl)]
    refine AE 26 _ _ rfl wr.heap.size 21 (by kernel_rfl) M (by kernel_rfl) (p:=(.string nm::(Ah rc++(C++(E++(H++([]:LV))))))) (m:=c3) (q:=(c4++(c5++(c6++c7)))) (t:=51) (by have h:=f.o.row;simpa using h) (by simp[A7,ak.o,ai.o,ah.o,aj.o,au.o,ap.o,aq.o,ar.o,ay.o,az.o,b4.o,b3.o]) (by rw[aj.o,b3.o]) (BV b3.o) (Ai (by obtain ⟨w0,w1,w2,w3,w4,w5,w6,w7,_⟩:=d.o;exact w3)) ?_
    intro S3 a2
    have O:AF S2 S3 wr.heap.size (.string nm::(Ah rc++(C++(E++(H++(M++(c4++(c5++(c6++c7))))))))) 51:=by simpa using a2
    refine T.o _ _ (by intro h;cases h) ?_
    have S:=f.o.wrote O;have U:=d.o.wrt O (by simp);have hj:=HC.o.stab _ _ _ s.o (fun k A=>O.block k (by have:=a1.o k A;omega)) (by rw[O.size];exact ye _)
    clear T K f d s a2 O
    have f:=yb S;have d:=yb U;have s:=yb hj
    clear S U hj
    refine BS (by kernel_rfl) ?_
    refine NoPanic.normal ?_
    refine eb.o _ _ ?_
    refine Ag fun K5 el=>?_
    obtain ⟨I2,cr⟩:∃I2:Nat->World->Prop,I2=fun t Y=>(t=0->TB F wr 51 (.string nm::(Ah rc++(C++(E++(H++(M++(c4++(c5++(c6++c7))))))))) Y∧VE G (([w.heap.size,w.heap.size+1,w.heap.size+2]++ob (.slice va vn vc))++[wr.heap.size]) Y [C,E,H,M,c4,c5,c6,c7] [AM g e0,AM g e1,AM g e2,AM g e3,e4,e5,e6,e7]∧J (((((bb&&qc)&&AV q e0)&&AV q e1)&&AV q e2)&&AV q e3) Y)∧(t=1->∃Q R:LV,TB F wr 51 (.string nm::(Ah rc++(C++(E++(H++(M++(Q++(c5++(R++c7))))))))) Y∧VE G (([w.heap.size,w.heap.size+1,w.heap.size+2]++ob (.slice va vn vc))++[wr.heap.size]) Y [C,E,H,M,Q,c5,R,c7] [AM g e0,AM g e1,AM g e2,AM g e3,AM g e4,e5,AM g e6,e7]∧J (((((((bb&&qc)&&AV q e0)&&AV q e1)&&AV q e2)&&AV q e3)&&AV q e4)&&AV q e6) Y)∧(t=2->∃Q R:LV,∃a8 af:LV,TB F wr 51 (.string nm::(Ah rc++(C++(E++(H++(M++(Q++(a8++(R++af))))))))) Y∧VE G (([w.heap.size,w.heap.size+1,w.heap.size+2]++ob (.slice va vn vc))++[wr.heap.size]) Y [C,E,H,M,Q,a8,R,af] [AM g e0,AM g e1,AM g e2,AM g e3,AM g e4,AM g e5,AM g e6,AM g e7]∧J (((((((((bb&&qc)&&AV q e0)&&AV q e1)&&AV q e2)&&AV q e3)&&AV q e4)&&AV q e6)&&AV q e5)&&AV q e7) Y):=⟨_,rfl⟩
    have cf:Hid (I2 0 S3):=yb (by rw[cr];exact ⟨fun _=>⟨f.o,d.o,s.o⟩,fun h=>by omega,fun h=>by omega⟩)
    have cu:=yb cr
    clear f d s cr
    obtain ⟨wo,rfl⟩:∃wo:World,wo=wr:=⟨_,rfl⟩
    go_wp2
    go_loopw [118] (fun tv X=>∃t:Nat,tv=iV t∧t<=2∧Hid (I2 t X)) (fun tv _=>2 - (intOf tv).toNat)
    case atStart=>exact ⟨0,rfl,by omega,cf⟩
    case round=>
     clear cf
     obtain ⟨t,rfl,ht,bk⟩:=hrel
     obtain ⟨cc,c9,bp⟩:(t=0->TB F wo 51 (.string nm::(Ah rc++(C++(E++(H++(M++(c4++(c5++(c6++c7))))))))) wr∧VE G (([w.heap.size,w.heap.size+1,w.heap.size+2]++ob (.slice va vn vc))++[wo.heap.size]) wr [C,E,H,M,c4,c5,c6,c7] [AM g e0,AM g e1,AM g e2,AM g e3,e4,e5,e6,e7]∧J (((((bb&&qc)&&AV q e0)&&AV q e1)&&AV q e2)&&AV q e3) wr)∧(t=1->∃Q R:LV,TB F wo 51 (.string nm::(Ah rc++(C++(E++(H++(M++(Q++(c5++(R++c7))))))))) wr∧VE G (([w.heap.size,w.heap.size+1,w.heap.size+2]++ob (.slice va vn vc))++[wo.heap.size]) wr [C,E,H,M,Q,c5,R,c7] [AM g e0,AM g e1,AM g e2,AM g e3,AM g e4,e5,AM g e6,e7]∧J (((((((bb&&qc)&&AV q e0)&&AV q e1)&&AV q e2)&&AV q e3)&&AV q e4)&&AV q e6) wr)∧(t=2->∃Q R:LV,∃a8 af:LV,TB F wo 51 (.string nm::(Ah rc++(C++(E++(H++(M++(Q++(a8++(R++af))))))))) wr∧VE G (([w.heap.size,w.heap.size+1,w.heap.size+2]++ob (.slice va vn vc))++[wo.heap.size]) wr [C,E,H,M,Q,a8,R,af] [AM g e0,AM g e1,AM g e2,AM g e3,AM g e4,AM g e5,AM g e6,AM g e7]∧J (((((((((bb&&qc)&&AV q e0)&&AV q e1)&&AV q e2)&&AV q e3)&&AV q e4)&&AV q e6)&&AV q e5)&&AV q e7) wr):=by have h:=bk.o;rw[cu.o] at h;exact h
     clear bk
     by_cases bz:t=0
     ·obtain ⟨S,U,hJ⟩:=cc bz
      subst bz
      clear cc c9 bp ht
      have f:=yb S;have d:=yb U;have s:=yb hJ
      clear S U hJ
      go_upto_block 7 with fail
      refine wp_block ?_
      refine Ag fun K7 cp=>?_
      go_wp2
      refine cp.o _ _ ?_
      obtain ⟨RW,av⟩:∃r:LV,r=(.string nm::(Ah rc++(C++(E++(H++(M++(c4++(c5++(c6++c7))))))))):=⟨_,rfl⟩
      have ag:=yb av
      rw[<-av] at f
      clear av
      obtain ⟨w0,w1,w2,w3,w4,w5,w6,w7,_⟩:=d.o
      have an:=yb w0.len
      have am:=yb w1.len
      have ao:=yb w2.len
      have al:=yb w3.len
      have ad:=yb w4.len
      have ae:=yb w5.len
      have ac:=yb w6.len
      have ab:=yb w7.len
      clear w0 w1 w2 w3 w4 w5 w6 w7
      have S:=f.o.drew;have U:=d.o.drew;have hj:=HC.o.stab _ _ wr.drew s.o (fun _ _=>rfl) (ye _)
      clear f d s
      have f:=yb S;have d:=yb U;have s:=yb hj
      clear S U hj
      have a1:Hid (∀k,F k->k < wo.heap.size):=yb (fun k A=>by have:=aw.o k A;have:=a7.o;omega)
      refine wp_region_noPanic ?_
      refine BT (by kernel_rfl) (fun W=>W.heap[wo.heap.size]?=some (.cells RW.toArray 51 (0,0))) 16 ?_
      refine A0 (i:=0) (v:=iV 0) rfl (by kernel_rfl) (by kernel_rfl) (by kernel_rfl) (fun _ _ _ h=>h) (by kernel_rfl) (Or.inl ⟨by rfl,?_⟩) (fun _=>f.o.row) ?_
      ·intro w _;go_simp
      refine A0 (i:=1) (v:=iV 0) rfl (by kernel_rfl) (by kernel_rfl) (by kernel_rfl) (fun _ _ _ h=>h) (by kernel_rfl) (Or.inl ⟨by rfl,?_⟩) (fun _=>f.o.row) ?_
      ·intro w _;go_simp
      refine A0 (i:=2) (v:=iV 0) rfl (by kernel_rfl) (by kernel_rfl) (by kernel_rfl) (fun _ _ _ h=>h) (by kernel_rfl) (Or.inl ⟨by rfl,?_⟩) (fun _=>f.o.row) ?_
      ·intro w _;go_simp
      refine A0 (i:=3) (v:=pV wo.heap.size 27) rfl (by kernel_rfl) (by kernel_rfl) (by kernel_rfl) (fun _ _ _ h=>h) (by kernel_rfl) (Or.inl ⟨by rfl,?_⟩) (fun _=>f.o.row) ?_
      ·intro w _;go_simp
      refine A0 (i:=4) (v:=pV wo.heap.size 27) rfl (by kernel_rfl) (by kernel_rfl) (by kernel_rfl) (fun _ _ _ h=>h) (by kernel_rfl) (Or.inl ⟨by rfl,?_⟩) (fun _=>f.o.row) ?_
      ·intro w _;go_simp
      refine Ae (i:=5) (v:=.agg (c4).toArray) rfl (by kernel_rfl) (by kernel_rfl) (by kernel_rfl) (fun _ _ _ h=>h) (by kernel_rfl) (yK (by rfl) 26 _ rfl (wo.heap.size) 27 (by kernel_rfl) (c4) _ (fun W hW=>BE hW (p:=(.string nm::(Ah rc++(C++(E++(H++(M++([]:LV)))))))) (q:=(c5++(c6++c7))) (by rw[ag.o];simp) (by simp[A7,an.o,am.o,ao.o,al.o,ad.o,ae.o,ac.o,ab.o])) qq rfl (BV ad.o)) f.o.row ?_
      refine A0 (i:=6) (v:=.func (.func id) #[] caps) rfl (by kernel_rfl) (by kernel_rfl) (by kernel_rfl) (fun _ _ _ h=>h) (by kernel_rfl) (Or.inl ⟨by rfl,?_⟩) (fun _=>f.o.row) ?_
      ·intro w _;go_simp
      refine A0 (i:=8) (v:=iV 0) rfl (by kernel_rfl) (by kernel_rfl) (by kernel_rfl) (fun _ _ _ h=>h) (by kernel_rfl) (Or.inl ⟨by rfl,?_⟩) (fun _=>f.o.row) ?_
      ·intro w _;go_simp
      refine A0 (i:=9) (v:=pV wo.heap.size 39) rfl (by kernel_rfl) (by kernel_rfl) (by kernel_rfl) (fun _ _ _ h=>h) (by kernel_rfl) (Or.inl ⟨by rfl,?_⟩) (fun _=>f.o.row) ?_
      ·intro w _;go_simp
      refine A0 (i:=10) (v:=pV wo.heap.size 39) rfl (by kernel_rfl) (by kernel_rfl) (by kernel_rfl) (fun _ _ _ h=>h) (by kernel_rfl) (Or.inl ⟨by rfl,?_⟩) (fun _=>f.o.row) ?_
      ·intro w _;go_simp
      refine Ae (i:=11) (v:=.agg (c6).toArray) rfl (by kernel_rfl) (by kernel_rfl) (by kernel_rfl) (fun _ _ _ h=>h) (by kernel_rfl) (yK (by rfl) 26 _ rfl (wo.heap.size) 39 (by kernel_rfl) (c6) _ (fun W hW=>BE hW (p:=(.string nm::(Ah rc++(C++(E++(H++(M++(c4++(c5++([]:LV)))))))))) (q:=c7) (by rw[ag.o];simp) (by simp[A7,an.o,am.o,ao.o,al.o,ad.o,ae.o,ac.o,ab.o])) qq rfl (BV ac.o)) f.o.row ?_
      refine A0 (i:=12) (v:=.func (.func id) #[] caps) rfl (by kernel_rfl) (by kernel_rfl) (by kernel_rfl) (fun _ _ _ h=>h) (by kernel_rfl) (Or.inl ⟨by rfl,?_⟩) (fun _=>f.o.row) ?_
      ·intro w _;go_simp
      refine A0 (i:=14) (v:=pV wo.heap.size 27) rfl (by kernel_rfl) (by kernel_rfl) (by kernel_rfl) (fun _ _ _ h=>h) (by kernel_rfl) (Or.inl ⟨by rfl,?_⟩) (fun _=>f.o.row) ?_
      ·intro w _;go_simp
      refine A0 (i:=17) (v:=pV wo.heap.size 39) rfl (by kernel_rfl) (by kernel_rfl) (by kernel_rfl) (fun _ _ _ h=>h) (by kernel_rfl) (Or.inl ⟨by rfl,?_⟩) (fun _=>f.o.row) ?_
      ·intro w _;go_simp
      refine A3 (i:=7) (by kernel_rfl) rfl (fun K T=>?_)
      go_simp
      have V:=yb (B6 HC.o e4 (FL G (([w.heap.size,w.heap.size+1,w.heap.size+2]++ob (.slice va vn vc))++[wo.heap.size])) ((((((bb&&qc)&&AV q e0)&&AV q e1)&&AV q e2)&&AV q e3)) wr.drew c4 ax.o.2.2.2.2.1 s.o (by obtain ⟨w0,w1,w2,w3,w4,w5,w6,w7,_⟩:=d.o;exact w4) (fun k A=>.inl (aa.o k A)) (fun k A=>by
       have h1:=f.o.lt;have h2:=a7.o
       rcases A with A|A
       ·have:=HG.o k A;omega
       ·have:=(b5.o k A).2;omega))
      refine V.o.mono ?_
      rintro e Z0 ⟨Q,rfl,Z,a6,a0⟩
      have S:=f.o.call a1.o a0
      have U:VE G (([w.heap.size,w.heap.size+1,w.heap.size+2]++ob (.slice va vn vc))++[wo.heap.size]) Z0 [C,E,H,M,Q,c5,c6,c7] [AM g e0,AM g e1,AM g e2,AM g e3,AM g e4,e5,e6,e7]:=by
       obtain ⟨w0,w1,w2,w3,w4,w5,w6,w7,_⟩:=d.o.bcall a0 aa.o
       exact ⟨w0,w1,w2,w3,Z,w5,w6,w7,trivial⟩
      have b9:=yb Z.len
      refine T.o _ _ (fun _=>S.row) ?_
      clear T K f d s V Z a0
      have f:=yb S;have d:=yb U;have s:=yb a6
      clear S U a6
      refine A3 (i:=13) (by kernel_rfl) rfl (fun K T=>?_)
      go_simp
      have V:=yb (B6 HC.o e6 (FL G (([w.heap.size,w.heap.size+1,w.heap.size+2]++ob (.slice va vn vc))++[wo.heap.size])) (((((((bb&&qc)&&AV q e0)&&AV q e1)&&AV q e2)&&AV q e3)&&AV q e4)) Z0 c6 ax.o.2.2.2.2.2.2.1 s.o (by obtain ⟨w0,w1,w2,w3,w4,w5,w6,w7,_⟩:=d.o;exact w6) (fun k A=>.inl (aa.o k A)) (fun k A=>by
       have h1:=f.o.lt;have h2:=a7.o
       rcases A with A|A
       ·have:=HG.o k A;omega
       ·have:=(b5.o k A).2;omega))
      refine V.o.mono ?_
      rintro e Z1 ⟨R,rfl,Z,a6,a0⟩
      have S:=f.o.call a1.o a0
      have U:VE G (([w.heap.size,w.heap.size+1,w.heap.size+2]++ob (.slice va vn vc))++[wo.heap.size]) Z1 [C,E,H,M,Q,c5,R,c7] [AM g e0,AM g e1,AM g e2,AM g e3,AM g e4,e5,AM g e6,e7]:=by
       obtain ⟨w0,w1,w2,w3,w4,w5,w6,w7,_⟩:=d.o.bcall a0 aa.o
       exact ⟨w0,w1,w2,w3,w4,w5,Z,w7,trivial⟩
      have ci:=yb Z.len
      refine T.o _ _ (fun _=>S.row) ?_
      clear T K f d s V Z a0
      have f:=yb S;have d:=yb U;have s:=yb a6
      clear S U a6
      rw[ag.o] at f
      refine A3 (i:=15) (by kernel_rfl) rfl (fun K T=>?_)
      go_simp
      refine T.o _ _ (fun _=>by rw[ag.o];exact f.o.row) ?_
      clear T K
      refine A3 (i:=16) (by kernel_rfl) rfl (fun K T=>?_)
      rw[yx (by rfl)]
      refine AE 26 _ _ rfl wo.heap.size 27 (by kernel_rfl) Q (by kernel_rfl) (p:=(.string nm::(Ah rc++(C++(E++(H++(M++([]:LV)))))))) (m:=c4) (q:=(c5++(c6++c7))) (t:=51) (by have h:=f.o.row;simpa using h) (by simp[A7,an.o,am.o,ao.o,al.o,ad.o,ae.o,ac.o,ab.o,b9.o]) (by rw[ad.o,b9.o]) (BV b9.o) (Ai (by obtain ⟨w0,w1,w2,w3,w4,w5,w6,w7,_⟩:=d.o;exact w4)) ?_
      intro S0 a2
      have O:AF Z1 S0 wo.heap.size (.string nm::(Ah rc++(C++(E++(H++(M++(Q++(c5++(c6++c7))))))))) 51:=by simpa using a2
      refine T.o _ _ (by intro h;cases h) ?_
      have S:=f.o.wrote O;have U:=d.o.wrt O (by simp);have hj:=HC.o.stab _ _ _ s.o (fun k A=>O.block k (by have:=a1.o k A;omega)) (by rw[O.size];exact ye _)
      clear T K f d s a2 O
      have f:=yb S;have d:=yb U;have s:=yb hj
      clear S U hj
      refine A3 (i:=18) (by kernel_rfl) rfl (fun K T=>?_)
      go_simp
      refine T.o _ _ (by intro h;cases h) ?_
      clear T K
      refine A3 (i:=19) (by kernel_rfl) rfl (fun K T=>?_)
      rw[yx (by rfl)]
      refine AE 26 _ _ rfl wo.heap.size 39 (by kernel_rfl) R (by kernel_rfl) (p:=(.string nm::(Ah rc++(C++(E++(H++(M++(Q++(c5++([]:LV)))))))))) (m:=c6) (q:=c7) (t:=51) (by have h:=f.o.row;simpa using h) (by simp[A7,an.o,am.o,ao.o,al.o,ad.o,ae.o,ac.o,ab.o,b9.o]) (by rw[ac.o,ci.o]) (BV ci.o) (Ai (by obtain ⟨w0,w1,w2,w3,w4,w5,w6,w7,_⟩:=d.o;exact w6)) ?_
      intro S1 a2
      have O:AF S0 S1 wo.heap.size (.string nm::(Ah rc++(C++(E++(H++(M++(Q++(c5++(R++c7))))))))) 51:=by simpa using a2
      refine T.o _ _ (by intro h;cases h) ?_
      have S:=f.o.wrote O;have U:=d.o.wrt O (by simp);have hj:=HC.o.stab _ _ _ s.o (fun k A=>O.block k (by have:=a1.o k A;omega)) (by rw[O.size];exact ye _)
      clear T K f d s a2 O
      have f:=yb S;have d:=yb U;have s:=yb hj
      clear S U hj
      refine BS (by kernel_rfl) ?_
      refine NoPanic.normal ?_
      have bh:Hid (I2 1 S1):=yb (by rw[cu.o];exact ⟨fun h=>by omega,fun _=>⟨_,_,f.o,d.o,s.o⟩,fun h=>by omega⟩)
      go_wp2
      exact ⟨⟨1,rfl,by omega,bh⟩,by simp[intOf]⟩
     ·by_cases d4:t=1
      ·obtain ⟨Q,R,S,U,hJ⟩:=c9 d4
       subst d4
       clear cc c9 bp ht bz
       have f:=yb S;have d:=yb U;have s:=yb hJ
       clear S U hJ
       go_upto_block 7 with fail
       refine wp_block ?_
       refine Ag fun K7 cp=>?_
       go_wp2
       refine cp.o _ _ ?_
       obtain ⟨RW,av⟩:∃r:LV,r=(.string nm::(Ah rc++(C++(E++(H++(M++(Q++(c5++(R++c7))))))))):=⟨_,rfl⟩
       have ag:=yb av
       rw[<-av] at f
       clear av
       obtain ⟨w0,w1,w2,w3,w4,w5,w6,w7,_⟩:=d.o
       have an:=yb w0.len
       have am:=yb w1.len
       have ao:=yb w2.len
       have al:=yb w3.len
       have ad:=yb w4.len
       have ae:=yb w5.len
       have ac:=yb w6.len
       have ab:=yb w7.len
       clear w0 w1 w2 w3 w4 w5 w6 w7
       have S:=f.o.drew;have U:=d.o.drew;have hj:=HC.o.stab _ _ wr.drew s.o (fun _ _=>rfl) (ye _)
       clear f d s
       have f:=yb S;have d:=yb U;have s:=yb hj
       clear S U hj
       have a1:Hid (∀k,F k->k < wo.heap.size):=yb (fun k A=>by have:=aw.o k A;have:=a7.o;omega)
       refine wp_region_noPanic ?_
       refine BT (by kernel_rfl) (fun W=>W.heap[wo.heap.size]?=some (.cells RW.toArray 51 (0,0))) 16 ?_
       refine A0 (i:=0) (v:=iV 1) rfl (by kernel_rfl) (by kernel_rfl) (by kernel_rfl) (fun _ _ _ h=>h) (by kernel_rfl) (Or.inl ⟨by rfl,?_⟩) (fun _=>f.o.row) ?_
       ·intro w _;go_simp
       refine A0 (i:=1) (v:=iV 1) rfl (by kernel_rfl) (by kernel_rfl) (by kernel_rfl) (fun _ _ _ h=>h) (by kernel_rfl) (Or.inl ⟨by rfl,?_⟩) (fun _=>f.o.row) ?_
       ·intro w _;go_simp
       refine A0 (i:=2) (v:=iV 1) rfl (by kernel_rfl) (by kernel_rfl) (by kernel_rfl) (fun _ _ _ h=>h) (by kernel_rfl) (Or.inl ⟨by rfl,?_⟩) (fun _=>f.o.row) ?_
       ·intro w _;go_simp
       refine A0 (i:=3) (v:=pV wo.heap.size 27) rfl (by kernel_rfl) (by kernel_rfl) (by kernel_rfl) (fun _ _ _ h=>h) (by kernel_rfl) (Or.inl ⟨by rfl,?_⟩) (fun _=>f.o.row) ?_
       ·intro w _;go_simp
       refine A0 (i:=4) (v:=pV wo.heap.size 33) rfl (by kernel_rfl) (by kernel_rfl) (by kernel_rfl) (fun _ _ _ h=>h) (by kernel_rfl) (Or.inl ⟨by rfl,?_⟩) (fun _=>f.o.row) ?_
       ·intro w _;go_simp
       refine Ae (i:=5) (v:=.agg (c5).toArray) rfl (by kernel_rfl) (by kernel_rfl) (by kernel_rfl) (fun _ _ _ h=>h) (by kernel_rfl) (yK (by rfl) 26 _ rfl (wo.heap.size) 33 (by kernel_rfl) (c5) _ (fun W hW=>BE hW (p:=(.string nm::(Ah rc++(C++(E++(H++(M++(Q++([]:LV))))))))) (q:=(R++c7)) (by rw[ag.o];simp) (by simp[A7,an.o,am.o,ao.o,al.o,ad.o,ae.o,ac.o,ab.o])) qq rfl (BV ae.o)) f.o.row ?_
       refine A0 (i:=6) (v:=.func (.func id) #[] caps) rfl (by kernel_rfl) (by kernel_rfl) (by kernel_rfl) (fun _ _ _ h=>h) (by kernel_rfl) (Or.inl ⟨by rfl,?_⟩) (fun _=>f.o.row) ?_
       ·intro w _;go_simp
       refine A0 (i:=8) (v:=iV 1) rfl (by kernel_rfl) (by kernel_rfl) (by kernel_rfl) (fun _ _ _ h=>h) (by kernel_rfl) (Or.inl ⟨by rfl,?_⟩) (fun _=>f.o.row) ?_
       ·intro w _;go_simp
       refine A0 (i:=9) (v:=pV wo.heap.size 39) rfl (by kernel_rfl) (by kernel_rfl) (by kernel_rfl) (fun _ _ _ h=>h) (by kernel_rfl) (Or.inl ⟨by rfl,?_⟩) (fun _=>f.o.row) ?_
       ·intro w _;go_simp
       refine A0 (i:=10) (v:=pV wo.heap.size 45) rfl (by kernel_rfl) (by kernel_rfl) (by kernel_rfl) (fun _ _ _ h=>h) (by kernel_rfl) (Or.inl ⟨by rfl,?_⟩) (fun _=>f.o.row) ?_
       ·intro w _;go_simp
       refine Ae (i:=11) (v:=.agg (c7).toArray) rfl (by kernel_rfl) (by kernel_rfl) (by kernel_rfl) (fun _ _ _ h=>h) (by kernel_rfl) (yK (by rfl) 26 _ rfl (wo.heap.size) 45 (by kernel_rfl) (c7) _ (fun W hW=>BE hW (p:=(.string nm::(Ah rc++(C++(E++(H++(M++(Q++(c5++(R++([]:LV))))))))))) (q:=([]:LV)) (by rw[ag.o];simp) (by simp[A7,an.o,am.o,ao.o,al.o,ad.o,ae.o,ac.o,ab.o])) qq rfl (BV ab.o)) f.o.row ?_
       refine A0 (i:=12) (v:=.func (.func id) #[] caps) rfl (by kernel_rfl) (by kernel_rfl) (by kernel_rfl) (fun _ _ _ h=>h) (by kernel_rfl) (Or.inl ⟨by rfl,?_⟩) (fun _=>f.o.row) ?_
       ·intro w _;go_simp
       refine A0 (i:=14) (v:=pV wo.heap.size 27) rfl (by kernel_rfl) (by kernel_rfl) (by kernel_rfl) (fun _ _ _ h=>h) (by kernel_rfl) (Or.inl ⟨by rfl,?_⟩) (fun _=>f.o.row) ?_
       ·intro w _;go_simp
       refine A0 (i:=17) (v:=pV wo.heap.size 39) rfl (by kernel_rfl) (by kernel_rfl) (by kernel_rfl) (fun _ _ _ h=>h) (by kernel_rfl) (Or.inl ⟨by rfl,?_⟩) (fun _=>f.o.row) ?_
       ·intro w _;go_simp
       refine A3 (i:=7) (by kernel_rfl) rfl (fun K T=>?_)
       go_simp
       have V:=yb (B6 HC.o e5 (FL G (([w.heap.size,w.heap.size+1,w.heap.size+2]++ob (.slice va vn vc))++[wo.heap.size])) ((((((((bb&&qc)&&AV q e0)&&AV q e1)&&AV q e2)&&AV q e3)&&AV q e4)&&AV q e6)) wr.drew c5 ax.o.2.2.2.2.2.1 s.o (by obtain ⟨w0,w1,w2,w3,w4,w5,w6,w7,_⟩:=d.o;exact w5) (fun k A=>.inl (aa.o k A)) (fun k A=>by
        have h1:=f.o.lt;have h2:=a7.o
        rcases A with A|A
        ·have:=HG.o k A;omega
        ·have:=(b5.o k A).2;omega))
       refine V.o.mono ?_
       rintro e Z0 ⟨a8,rfl,Z,a6,a0⟩
       have S:=f.o.call a1.o a0
       have U:VE G (([w.heap.size,w.heap.size+1,w.heap.size+2]++ob (.slice va vn vc))++[wo.heap.size]) Z0 [C,E,H,M,Q,a8,R,c7] [AM g e0,AM g e1,AM g e2,AM g e3,AM g e4,AM g e5,AM g e6,e7]:=by
        obtain ⟨w0,w1,w2,w3,w4,w5,w6,w7,_⟩:=d.o.bcall a0 aa.o
        exact ⟨w0,w1,w2,w3,w4,Z,w6,w7,trivial⟩
       have ba:=yb Z.len
       refine T.o _ _ (fun _=>S.row) ?_
       clear T K f d s V Z a0
       have f:=yb S;have d:=yb U;have s:=yb a6
       clear S U a6
       refine A3 (i:=13) (by kernel_rfl) rfl (fun K T=>?_)
       go_simp
       have V:=yb (B6 HC.o e7 (FL G (([w.heap.size,w.heap.size+1,w.heap.size+2]++ob (.slice va vn vc))++[wo.heap.size])) (((((((((bb&&qc)&&AV q e0)&&AV q e1)&&AV q e2)&&AV q e3)&&AV q e4)&&AV q e6)&&AV q e5)) Z0 c7 ax.o.2.2.2.2.2.2.2 s.o (by obtain ⟨w0,w1,w2,w3,w4,w5,w6,w7,_⟩:=d.o;exact w7) (fun k A=>.inl (aa.o k A)) (fun k A=>by
        have h1:=f.o.lt;have h2:=a7.o
        rcases A with A|A
        ·have:=HG.o k A;omega
        ·have:=(b5.o k A).2;omega))
       refine V.o.mono ?_
       rintro e Z1 ⟨af,rfl,Z,a6,a0⟩
       have S:=f.o.call a1.o a0
       have U:VE G (([w.heap.size,w.heap.size+1,w.heap.size+2]++ob (.slice va vn vc))++[wo.heap.size]) Z1 [C,E,H,M,Q,a8,R,af] [AM g e0,AM g e1,AM g e2,AM g e3,AM g e4,AM g e5,AM g e6,AM g e7]:=by
        obtain ⟨w0,w1,w2,w3,w4,w5,w6,w7,_⟩:=d.o.bcall a0 aa.o
        exact ⟨w0,w1,w2,w3,w4,w5,w6,Z,trivial⟩
       have cg:=yb Z.len
       refine T.o _ _ (fun _=>S.row) ?_
       clear T K f d s V Z a0
       have f:=yb S;have d:=yb U;have s:=yb a6
       clear S U a6
       rw[ag.o] at f
       refine A3 (i:=15) (by kernel_rfl) rfl (fun K T=>?_)
       go_simp
       refine T.o _ _ (fun _=>by rw[ag.o];exact f.o.row) ?_
       clear T K
       refine A3 (i:=16) (by kernel_rfl) rfl (fun K T=>?_)
       rw[yx (by rfl)]
       refine AE 26 _ _ rfl wo.heap.size 33 (by kernel_rfl) a8 (by kernel_rfl) (p:=(.string nm::(Ah rc++(C++(E++(H++(M++(Q++([]:LV))))))))) (m:=c5) (q:=(R++c7)) (t:=51) (by have h:=f.o.row;simpa using h) (by simp[A7,an.o,am.o,ao.o,al.o,ad.o,ae.o,ac.o,ab.o,ba.o]) (by rw[ae.o,ba.o]) (BV ba.o) (Ai (by obtain ⟨w0,w1,w2,w3,w4,w5,w6,w7,_⟩:=d.o;exact w5)) ?_
       intro S0 a2
       have O:AF Z1 S0 wo.heap.size (.string nm::(Ah rc++(C++(E++(H++(M++(Q++(a8++(R++c7))))))))) 51:=by simpa using a2
       refine T.o _ _ (by intro h;cases h) ?_
       have S:=f.o.wrote O;have U:=d.o.wrt O (by simp);have hj:=HC.o.stab _ _ _ s.o (fun k A=>O.block k (by have:=a1.o k A;omega)) (by rw[O.size];exact ye _)
       clear T K f d s a2 O
       have f:=yb S;have d:=yb U;have s:=yb hj
       clear S U hj
       refine A3 (i:=18) (by kernel_rfl) rfl (fun K T=>?_)
       go_simp
       refine T.o _ _ (by intro h;cases h) ?_
       clear T K
       refine A3 (i:=19) (by kernel_rfl) rfl (fun K T=>?_)
       rw[yx (by rfl)]
       refine AE 26 _ _ rfl wo.heap.size 45 (by kernel_rfl) af (by kernel_rfl) (p:=(.string nm::(Ah rc++(C++(E++(H++(M++(Q++(a8++(R++([]:LV))))))))))) (m:=c7) (q:=([]:LV)) (t:=51) (by have h:=f.o.row;simpa using h) (by simp[A7,an.o,am.o,ao.o,al.o,ad.o,ae.o,ac.o,ab.o,ba.o]) (by rw[ab.o,cg.o]) (BV cg.o) (Ai (by obtain ⟨w0,w1,w2,w3,w4,w5,w6,w7,_⟩:=d.o;exact w7)) ?_
       intro S1 a2
       have O:AF S0 S1 wo.heap.size (.string nm::(Ah rc++(C++(E++(H++(M++(Q++(a8++(R++af))))))))) 51:=by simpa using a2
       refine T.o _ _ (by intro h;cases h) ?_
       have S:=f.o.wrote O;have U:=d.o.wrt O (by simp);have hj:=HC.o.stab _ _ _ s.o (fun k A=>O.block k (by have:=a1.o k A;omega)) (by rw[O.size];exact ye _)
       clear T K f d s a2 O
       have f:=yb S;have d:=yb U;have s:=yb hj
       clear S U hj
       refine BS (by kernel_rfl) ?_
       refine NoPanic.normal ?_
       have bh:Hid (I2 2 S1):=yb (by rw[cu.o];exact ⟨fun h=>by omega,fun h=>by omega,fun _=>⟨_,_,_,_,f.o,d.o,s.o⟩⟩)
       go_wp2
       exact ⟨⟨2,rfl,by omega,bh⟩,by simp[intOf]⟩
      ·obtain rfl:t=2:=by omega
       obtain ⟨Q,R,a8,af,S,U,hJ⟩:=bp rfl
       have f:=yb S;have d:=yb U;have s:=yb hJ
       clear cc c9 bp ht bz d4 S U hJ
       go_wp2
       refine el.o _ _ ?_
       obtain ⟨be,cv⟩:∃r:LV,r=(.string nm::(Ah rc++(C++(E++(H++(M++(Q++(a8++(R++af))))))))):=⟨_,rfl⟩
       rw[<-cv] at f
       have cm:Hid (CG (GF (FL G ([w.heap.size,w.heap.size+1,w.heap.size+2]++ob (.slice va vn vc))) wr) wr be (CM g i ⟨nm,dn,e0,e1,e2,e3,e4,e5,e6,e7⟩)):=yb (by
        rw[cv]
        obtain ⟨x0,x1,x2,x3,x4,x5,x6,x7,_⟩:=d.o.up (l':=[w.heap.size,w.heap.size+1,w.heap.size+2]++ob (.slice va vn vc)) (Bj.refl _ _) (fun k A=>.inl (yo.2 (.inl A)))
        exact ⟨eh.o,by rw[show (CM g i (⟨nm,dn,e0,e1,e2,e3,e4,e5,e6,e7⟩:Ax)).frm=rc by rw[bs.o];rfl];exact e9.o,_,_,_,_,_,_,_,_,by rw[bs.o];rfl,x0,x1,x2,x3,x4,x5,x6,x7⟩)
       clear cv d
       have ca:=yb (IZ cm.o).1;have er:=yb (IZ cm.o).2
       have d2:Hid (MS F w cs (P++(.slice va vn vc:: qV)) wr):=yb (HM.o.ms.up aw.o a7.o f.o.bx)
       have f2:wr.cell? (aV (w.heap.size+2) 21)=some (.slice va vn vc):=d2.o.cellx rfl dm.o
       have dx:Hid (Bj (FL G ([w.heap.size,w.heap.size+1,w.heap.size+2]++ob (.slice va vn vc))) wo wr):=yb (f.o.bx.flux (ye _) (fun k A=>.inl (aa.o k A)))
       have dk:=HM.o.grow.up (l':=[w.heap.size,w.heap.size+1,w.heap.size+2]) Eb dx.o (fun k A=>f.o.bx.block k (HM.o.grow.lt k A).2 (fun h=>by have:=aw.o k h;have:=(HM.o.grow.lt k A).1;omega)) (fun _ h=>.inl h)
       obtain ⟨rows,c8,dj,bo⟩:=dk.own
       have e8:=yb c8;have eo:=yb dj;have dr:=yb bo
       have ce:Hid (w.heap.size+3<=wr.heap.size):=yb d2.o.lt
       have d6:Hid ((wr.alloc (.cells be.toArray 51)).ownsRow (w.heap.size+3) 51 51 (.slice va vn vc) rows.length rows.flatten):=yb (BA c8 fun k A=>((yg _ _).alloc (ye _) _).block k (F9 c8 k A).2)
       have d9:Hid (rows.length+1<=1000000):=yb (by rw[At.length bo,ec.o];exact ey.o)
       have eq:Hid (w.heap.size+3<=(wr.alloc (.cells be.toArray 51)).heap.size):=yb (by have:=ce.o;simp;omega)
       clear c8 dj bo dk
       go_upto_region 28 with (first
        |(with_reducible refine yj rfl 51 _ rfl wo.heap.size 0 (by kernel_rfl) be _ (Ay f.o.row) qG (by kernel_rfl) (BW (n:=51) (by kernel_rfl) ca.o) ?_)
        |(with_reducible refine BN rfl 29 51 _ rfl be (by kernel_rfl) 51 qv (by kernel_rfl) ca.o (by omega) (by omega) ?_)
        |(at_builtin;refine Bd qv rfl _ _ rfl 51 (by kernel_rfl) (by omega) (w.heap.size+3) (.slice va vn vc) rows.length rows.flatten (by kernel_rfl) d6.o wr.heap.size 1 be (by kernel_rfl) (World.alloc_heap_new _ _) ca.o er.o d9.o eq.o ?_;intro vx x8 bn dh dd;obtain ⟨xa,xn,xc,rfl⟩:=Cz bn;have b8:=yb (CD Eb dr.o eo.o e8.o cm.o ca.o bn dh dd ce.o);have ch:=yb (d2.o.up aw.o (ye _) (.of b8.o.below));clear bn dh dd)
        |(with_reducible refine Ao rfl 29 _ _ rfl (w.heap.size+2) 21 (by kernel_rfl) (.slice xa xn xc) (by kernel_rfl) (by kernel_rfl) (p:=P) (m:=.slice va vn vc) (q:= qV) (t:=35) ch.o.x dm.o (by kernel_rfl) (by kernel_rfl) ?_;intro x9 dv;have bg:=yb dv;clear dv))
       go_wp2
       have bh:Hid (I (i+1) x9):=yb (by
        rw[HI.o]
        refine ⟨.slice xa xn xc,ch.o.wrote bg.o,?_,?_,?_⟩
        ·rw[show (b&&(x.reaches.zipIdx.take (i+1)).all (fun p=>Eg q p.2 p.1))=(((((((((bb&&qc)&&AV q e0)&&AV q e1)&&AV q e2)&&AV q e3)&&AV q e4)&&AV q e6)&&AV q e5)&&AV q e7) by rw[cd.o];simp only[Eg,zc];rw[co.o]]
         exact HC.o.stab _ _ _ s.o (fun k A=>(bg.o.block k (by have:=aw.o k A;omega)).trans (b8.o.below.block k (by have:=aw.o k A;omega))) (by rw[bg.o.size];exact b8.o.flux.1)
        ·exact ((HM.o.got.flux dx.o (fun _ h=>.inl h)).flux b8.o.flux (Im b8.o.obs)).flux (bg.o.flux (.inr (by simp))) (fun _ h=>.inl h)
        ·have h:=b8.o.grow.up (l':=[w.heap.size,w.heap.size+1,w.heap.size+2]) Eb (bg.o.flux (.inr (by simp))) (fun k A=>bg.o.block k (by have:=(b8.o.grow.lt k A).1;omega)) (fun _ h=>.inl h)
         rw[<-cn.o] at h
         exact h)
       exact ⟨⟨i+1,by push_cast;rfl,by omega,bh⟩,by simp[intOf];omega⟩)
   clear dw
   have f1:X1.cell? (aV wr.heap.size 0)=some (.string nm):=Cp (f.o.part (p:=([]:LV)) (m:=[.string nm]) (q:=(Ah dn++(c0++(c1++(c2++(c3++(c4++(c5++(c6++c7))))))))) (by simp) (by simp))
   by_cases bd:i=0
   ·have et:decide ((i:Int)>0)=false:=by simp;omega
    have ew:decide ((0:Int) < (i:Int))=false:=by simp;omega
    have en:decide (0 < i)=false:=by simp;omega
    have d8:=yb bd
    clear bd
    go_wp2
    refine Jg (id:=id) (caps:=caps) (w:=w) (u:=u) (v:=.slice (some (aV bq oq)) n c) (n:=n) (i:=i) (B:=wr.heap.size) (P:=fun l=>K2 ⟨l,[]⟩ X1) ?_ (by kernel_rfl)
    exact bi.o _ _ (by rw[show rc=dn by rw[bs.o];first|exact yx rfl|exact yx d8.o|exact yx trivial|simp];exact f.o) d.o (by rw[show qc=true by rw[co.o];first|exact yx rfl|exact yx d8.o|exact yx trivial|simp,yT];exact s.o)
   ·have et:decide ((i:Int)>0)=true:=by simp;omega
    have ew:decide ((0:Int) < (i:Int))=true:=by simp;omega
    have en:decide (0 < i)=true:=by simp;omega
    have ez:=yb (d.o.1).len
    have ep:=yb (HC.o.call (bb) X1 2 wr.heap.size 1 (.string nm::([]:LV)) dn (c0++(c1++(c2++(c3++(c4++(c5++(c6++c7))))))) 51 s.o (by have h:=f.o.row;simpa[yl] using h) (by simp[A7]) ed.o d0.o (by decide) (by decide))
    go_wp2
    rw[HC.o.enter,zR]
    refine ep.o.mono ?_
    rintro e X9 ⟨rfl,hj,hx⟩
    have d3:WX F X1 X9 wr.heap.size (.string nm::(Ah (g 2 dn)++(c0++(c1++(c2++(c3++(c4++(c5++(c6++c7))))))))) 51:=by simpa[yl] using hx
    have S:=f.o.cb d3;have U:=d.o.cb d3 aa.o (by simp)
    have em:=yb S;have ej:=yb U;have ef:=yb hj
    clear S U hj d3 hx
    go_wp2
    refine Jg (id:=id) (caps:=caps) (w:=w) (u:=u) (v:=.slice (some (aV bq oq)) n c) (n:=n) (i:=i) (B:=wr.heap.size) (P:=fun l=>K2 ⟨l,[]⟩ X9) ?_ (by kernel_rfl)
    exact bi.o _ _ (by rw[show rc=g 2 dn by rw[bs.o];first|exact yu bd|exact yu (fun h=>h)|simp[bd]];exact em.o) ej.o (by rw[show qc=q 2 dn by rw[co.o];first|exact yu bd|exact yu (fun h=>h)|simp[bd]];exact ef.o)
  ·obtain rfl:i=n:=by omega
   have eg:decide ((i:Int) < (i:Int))=false:=by simp
   have HQ:Hid (J (b&&x.reaches.zipIdx.all (fun p=>Eg q p.2 p.1)) wr):=yb (by have h:=HM.o.j;simp only[bj.o,S7] at h;exact h)
   have dc:DA CG 51 51 (w.heap.size+3) G [w.heap.size,w.heap.size+1,w.heap.size+2] wr (.slice va vn vc) (x.reaches.zipIdx.map (fun p=>CM g p.2 p.1)):=by have h:=HM.o.grow;simp only[bj.o,S7] at h;exact h
   obtain ⟨hd,dz,di⟩:=dc.done Eb (fun k A=>by have:=HG.o k A;omega) (fun k A=>by simp at A;omega) (by have:=cz.o;simp;omega)
   have ev:Hid (Dl 3 (GF (FL G [w.heap.size,w.heap.size+1,w.heap.size+2]) wr) wr c0 c1 c2 h0 h1 hd ⟨none,0,0⟩ ⟨none,0,0⟩ ⟨none,0,0⟩ ⟨none,0,0⟩ (⟨y.name,y.season,y.cap,y.start,y.lets,y.crops,(x.reaches.zipIdx.map (fun p=>CM g p.2 p.1)),y.farms,y.rots,y.rights,y.duties⟩:An)):=yb (by
    have h:=HM.o.got.flux (F':=FL G [w.heap.size,w.heap.size+1,w.heap.size+2]) (Bj.refl _ _) (fun k A=>.inl (A.imp (fun h=>h) (fun h=>yo.2 (.inl h))))
    exact ⟨h.name,h.e0,h.e1,h.e2,fun A=>h.lets (by omega),fun A=>h.crops (by omega),fun _=>di,fun A=>absurd A (by omega),fun A=>absurd A (by omega),fun A=>absurd A (by omega),fun A=>absurd A (by omega)⟩)
   rw[dz] at HM
   have ei:=yb HM.o.ms
   clear dc dz di HM
   go_wp2
   refine T.o _ _ ?_
   refine FC (P:=fun l=>Code.wp Try.prog _ _ ⟨l,[]⟩ wr) rfl ?_
   refine Ub (y:=(⟨y.name,y.season,y.cap,y.start,y.lets,y.crops,(x.reaches.zipIdx.map (fun p=>CM g p.2 p.1)),y.farms,y.rots,y.rights,y.duties⟩:An)) HC.o HV.o db.o aa.o HG.o ?_ (by have h:=ei.o;rw[ee.o] at h;simpa[yl] using h) ev.o HQ.o
   exact ⟨rfl,rfl,rfl,rfl⟩
end Go.Proofs.Ytghepahgkcigpaa
