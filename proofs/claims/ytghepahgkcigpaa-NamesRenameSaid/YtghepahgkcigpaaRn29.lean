/- The law's mapped: its loop over reaches (printed by gen_df.py). -/
import Derived.Test.YtghepahgkcigpaaRn0
import Derived.Test.YtghepahgkcigpaaRn28
import Derived.Deep.CutBlock
set_option maxHeartbeats 64000000
set_option maxRecDepth 100000
set_option linter.unusedSimpArgs false
namespace Go.Proofs.Ytghepahgkcigpaa
open Go.RowKit
set_option linter.unusedSimpArgs false
def IX(id:Nat)(caps:Array Value)(w:World)(u z:Nat->Value)(v:Value)(n i B:Nat):Array Value:=#[u 0,.func (.func id) #[] caps,.pointer (some ⟨w.heap.size,0,none⟩),u 3,.pointer (some ⟨w.heap.size+1,0,none⟩),.pointer (some ⟨w.heap.size+2,0,none⟩),u 6,u 7,u 8,u 9,z 10,.pointer (some ⟨B,0,none⟩),z 12,u 13,u 14,u 15,u 16,u 17,u 18,u 19,u 20,u 21,u 22,u 23,u 24,u 25,u 26,u 27,u 28,u 29,u 30,u 31,u 32,u 33,u 34,u 35,u 36,u 37,u 38,u 39,u 40,u 41,u 42,u 43,u 44,u 45,u 46,u 47,u 48,u 49,u 50,u 51,u 52,u 53,u 54,u 55,u 56,u 57,u 58,u 59,u 60,u 61,u 62,u 63,u 64,u 65,u 66,u 67,u 68,u 69,u 70,u 71,u 72,u 73,u 74,u 75,u 76,u 77,u 78,u 79,u 80,u 81,u 82,u 83,u 84,.pointer (some ⟨w.heap.size,21,none⟩),v,.int .i64 n,.int .i64 i,z 89,z 90,z 91,z 92,z 93,z 94,z 95,z 96,z 97,z 98,z 99,z 100,z 101,z 102,z 103,z 104,z 105,z 106,z 107,z 108,z 109,z 110,z 111,z 112,z 113,z 114,z 115,z 116,z 117,z 118,z 119,z 120,z 121,z 122,z 123,z 124,z 125,z 126,z 127,z 128,z 129,z 130,z 131,z 132,z 133,z 134,z 135,z 136,z 137,z 138,z 139,z 140,z 141,z 142,z 143,z 144,z 145,z 146,u 147,u 148,u 149,u 150,u 151,u 152,u 153,u 154,u 155,u 156,u 157,u 158,u 159,u 160,u 161,u 162,u 163,u 164,u 165,u 166,u 167,u 168,u 169,u 170,u 171,u 172,u 173,u 174,u 175,u 176,u 177,u 178,u 179,u 180,u 181,u 182,u 183,u 184,u 185,u 186,u 187,u 188,u 189,u 190,u 191,u 192,u 193,u 194,u 195,u 196,u 197,u 198,u 199,u 200,u 201,u 202,u 203,u 204,u 205,u 206,u 207,u 208,u 209,u 210,u 211,u 212,u 213,u 214,u 215,u 216,u 217,u 218,u 219,u 220,u 221,u 222,u 223,u 224,u 225,u 226,u 227,u 228,u 229,u 230,u 231,u 232,u 233,u 234,u 235,u 236,u 237,u 238,u 239,u 240,u 241,u 242,u 243,u 244,u 245,u 246,u 247,u 248,u 249,u 250,u 251,u 252,u 253,u 254,u 255,u 256,u 257,u 258,u 259,u 260,u 261,u 262,u 263,u 264,u 265,u 266,u 267,u 268,u 269,u 270,u 271,u 272,u 273,u 274,u 275,u 276,u 277,u 278,u 279,u 280,u 281,u 282,u 283,u 284,u 285,u 286,u 287,u 288,u 289,u 290,u 291,u 292,u 293,u 294,u 295,u 296,u 297,u 298,u 299,u 300,u 301,u 302]
theorem JM{id:Nat}{caps:Array Value}{w:World}{u:Nat->Value}{v:Value}{n i B:Nat}{P:Array Value->Prop}{l:Array Value}(h:P (IX id caps w u (fun k=>l.getD k undef) v n i B))(e:IX id caps w u (fun k=>l.getD k undef) v n i B=l):P l:=e▸h
theorem Vs{bl:List Nat}{Bs:Nat}{id:Nat}{caps:Array Value}{F G:NP}{J:Bool->World->Prop}{g:Int->Rf->Rf}{q:Int->Rf->Bool}{b:Bool}{w W:World}{cs:LV}{u:Nat->Value}{x y:Am}{L:Bw}{c0 c1 c2:LV}{h0 h1:Ai}(bg:Jj bl Bs w W)(hc:KK id caps F g q J)(hv:Bb (GF G w) w L cs x)(d3:Rz x)(cx:∀k,F k->G k)(hG:∀k,G k->k < w.heap.size)(hu:UF id caps w u)
 (hS:MS F w cs (.string y.name::(c0++(c1++(c2++[h0.v,h1.v,.slice none 0 0,.slice none 0 0,.slice none 0 0,.slice none 0 0,.slice none 0 0])))) W)(hY:Bp 2 (w.heap.size+3) bl (GF (FL G bl) W) W c0 c1 c2 h0 h1 ⟨none,0,0⟩ ⟨none,0,0⟩ ⟨none,0,0⟩ ⟨none,0,0⟩ ⟨none,0,0⟩ y)(hJ:J b W):
  Code.wp Try.prog (CJ 6 (Try.f17.body.getD .skip)) (bodyPost Try.prog Try.f17 (US F G J (((((b&&x.reaches.zipIdx.all (fun p=>F4 q p.2 p.1))&&x.farms.all (Gv q))&&x.rots.all (Ji q))&&x.rights.all (E5 q))&&x.duties.all (Fo q)) (⟨y.name,y.season,y.cap,y.start,y.lets,y.crops,(x.reaches.zipIdx.map (fun p=>Cj g p.2 p.1)),(x.farms.map (DJ g)),(x.rots.map (Fm g)),(x.rights.map (Ck g)),(x.duties.map (Dz g))⟩:Am) w)) {tmps:=Kl u,defers:=[]} W:=by
 have de:∀k,F k->k < w.heap.size:=fun k hk=>hG k (cx k hk)
 obtain ⟨⟨a,n,c⟩,hL⟩:∃h:Ai,L.reaches=h:=⟨_,rfl⟩
 obtain ⟨s0,s1,s2,eg,g0,g1,g2⟩:=hv.cells
 have cv:W.cell? (aV w.heap.size 21)=some (.slice a n c):=by
  refine hS.cell (p:=.string x.name::(s0++(s1++(s2++[L.lets.v,L.crops.v])))) (q:=[L.farms.v,L.rots.v,L.rights.v,L.duties.v]) ?_ (by simp[g0.len,g1.len,g2.len])
  rw[eg,hL]
  simp[yp,Ai.v]
 have d5:Av (GF G w) w 51 (CT (GF G w) w) ⟨a,n,c⟩ x.reaches:=hL▸hv.reaches
 have ew:=yb d5.2.2
 have bz:Hid (n=x.reaches.length):=yb d5.1
 have db:Hid (x.reaches.length<=100000):=yb d3.slim.reaches
 have HN:Hid (n<=140737488355328):=yb (by have:=bz.o;have:=db.o;omega)
 obtain ⟨P,hP⟩:∃P:LV,P=.string y.name::(c0++(c1++(c2++[h0.v,h1.v]))):=⟨_,rfl⟩
 have ea:Hid (P.length=21):=yb (by rw[hP];simp[hY.e0.len,hY.e1.len,hY.e2.len])
 have dq:MS F w cs (P++(.slice none 0 0:: j8)) W:=by rw[hP];simpa[yp] using hS
 obtain ⟨I,hI⟩:∃I:Nat->World->Prop,I=fun i W=>∃v,RC bl Bs CT 51 51 F G J b w cs P j8 (fun N W=>Bp 2 (w.heap.size+3) bl N W c0 c1 c2 h0 h1 ⟨none,0,0⟩ ⟨none,0,0⟩ ⟨none,0,0⟩ ⟨none,0,0⟩ ⟨none,0,0⟩ y) (fun i=>(x.reaches.zipIdx.take i).all (fun p=>F4 q p.2 p.1)) (fun i=>(x.reaches.zipIdx.take i).map (fun p=>Cj g p.2 p.1)) i v W:=⟨_,rfl⟩
 have dh:Hid (I 0 W):=yb (by
  rw[hI]
  exact ⟨_,dq,by simpa using hJ,by simpa[ob,Value.ownBlock] using hY,by simpa using EA,bg.le⟩)
 have ar:=yb bg.lo;have bn:=yb bg.mem;have f0:=yb bg.b0;have ep:=yb bg.b1;have d2:=yb bg.b2
 have HI:=yb hI;have HV:=yb hv;have HC:=yb hc;have dy:=yb d3;have aa:=yb cx;have HG:=yb hG;have ay:=yb de;have ez:=yb hP;have HU:=yb hu;have fi:=yb hY.name
 rw[Gt,hu.u1,hu.u2,hu.u4,hu.u5]
 clear bg hv d3 hc cx hG de hS hY hJ hP hL eg g0 g1 g2 d5 dq hI hu
 refine Af fun K T=>?_
 go_wp2
 go_loopw [88] (fun iv wr=>∃i:Nat,iv=iV i∧i<=n∧Hid (I i wr)) (fun iv _=>n - (intOf iv).toNat)
 case atStart=>exact ⟨0,rfl,yC _,dh⟩
 case round=>
  clear dh cv
  obtain ⟨i,rfl,hi,bv⟩:=hrel
  obtain ⟨v,hM⟩:∃v,RC bl Bs CT 51 51 F G J b w cs P j8 (fun N W=>Bp 2 (w.heap.size+3) bl N W c0 c1 c2 h0 h1 ⟨none,0,0⟩ ⟨none,0,0⟩ ⟨none,0,0⟩ ⟨none,0,0⟩ ⟨none,0,0⟩ y) (fun i=>(x.reaches.zipIdx.take i).all (fun p=>F4 q p.2 p.1)) (fun i=>(x.reaches.zipIdx.take i).map (fun p=>Cj g p.2 p.1)) i v wr:=by have h:=bv.o;rw[HI.o] at h;exact h
  obtain ⟨va,vn,vc,rfl⟩:=hM.grow.slice
  have HM:=yb hM
  clear bv hM
  have fe:n<=140737488355328:=HN.o
  by_cases ek:i < n
  ·have cm:i < x.reaches.length:=by rw[<-bz.o];exact ek
   have f5:(i:Int) < (n:Int):=by omega
   obtain ⟨bq,oq,ct,he,ck,df,cj,dd⟩:=ew.o i cm
   obtain rfl:a=some (aV bq oq):=he
   have cc:Hid ((b&&(x.reaches.zipIdx.take (i+1)).all (fun p=>F4 q p.2 p.1))=((b&&(x.reaches.zipIdx.take i).all (fun p=>F4 q p.2 p.1))&&F4 q i x.reaches[i])):=yb (by
    rw[Ry cm,zj,zf,zA,yX,<-zc])
   have cw:Hid ((x.reaches.zipIdx.take (i+1)).map (fun p=>Cj g p.2 p.1)=(x.reaches.zipIdx.take i).map (fun p=>Cj g p.2 p.1)++[Cj g i x.reaches[i]]):=yb (by rw[Ry cm,zb];rfl)
   have en:Hid (i+1<=1000000):=yb (by have:=bz.o;have:=db.o;omega)
   have az:=yb (dy.o.reaches _ (yz cm))
   have fa:Hid (((x.reaches.zipIdx.take i).map (fun p=>Cj g p.2 p.1)).length=i):=yb (by simp;omega)
   generalize hD:x.reaches[i]=D at dd cc cw az
   clear hD
   generalize e8:(b&&(x.reaches.zipIdx.take i).all (fun p=>F4 q p.2 p.1))=bb at cc
   have HJ:Hid (J bb wr):=yb (by rw[<-e8];exact HM.o.j)
   clear e8
   have d7:=yb (Kk dd).2
   have bd:=yb df
   obtain ⟨nm,dn,e0,e1,e2,e3,e4,e5,e6,e7⟩:=D
   obtain ⟨cy,d4,c0,c1,c2,c3,c4,c5,c6,c7,rfl,x0,x1,x2,x3,x4,x5,x6,x7⟩:=dd
   simp only at cj bd d7 cc cw az cy d4 x0 x1 x2 x3 x4 x5 x6 x7
   obtain ⟨ct,bp⟩:∃ct:LV,ct=(.string nm::(An dn++(c0++(c1++(c2++(c3++(c4++(c5++(c6++c7))))))))):=⟨_,rfl⟩
   rw[<-bp] at cj bd d7
   have fc:=yb bp
   have f7:=yb cy
   have d6:=yb d4
   have dt:Hid (wr.rangeAt bq (oq+i*51) ct):=yb (A2 cj (HM.o.ms.bx.block bq ck.2 (fun k=>ck.1 (aa.o _ k))))
   have fh:Hid (bq < wr.heap.size):=yb (yr ck.2 HM.o.ms.bx.size)
   have dv:Hid (Az (fun c e=>AS (GF G w) w e c) [c0,c1,c2,c3,c4,c5,c6,c7] [e0,e1,e2,e3,e4,e5,e6,e7]):=yb ⟨x0,x1,x2,x3,x4,x5,x6,x7,trivial⟩
   have ba:Hid (∀k∈((bl++ob (.slice va vn vc))++[wr.heap.size]),w.heap.size<=k∧k<=wr.heap.size):=yb (by
    have h1:=HM.o.ms.lt
    intro k hk
    rcases yi.1 hk with hk|hk
    ·rcases yi.1 hk with hk|hk
     ·have:=bn.o k hk;have:=HM.o.bs;omega
     ·have:=HM.o.grow.lt k hk;have:=ar.o;omega
    ·simp at hk;omega)
   have a8:=yb HM.o.ms.lt;have dj:=yb HM.o.bs
   have f4:Hid (¬ F wr.heap.size):=yb (fun h=>by have:=ay.o _ h;have:=a8.o;omega)
   clear bp cj ck df cy d4 x0 x1 x2 x3 x4 x5 x6 x7
   go_upto_block 5 with fail
   refine wp_block ?_
   refine Af fun K1 ei=>?_
   go_wp2_with (first
    |(with_reducible refine ym rfl 51 _ rfl bq (oq+i*51) (by kernel_rfl) ct _ dt.o qS (by kernel_rfl) (AU (n:=51) (by kernel_rfl) bd.o) ?_)
    |(with_reducible refine Ae rfl 51 _ _ rfl wr.heap.size (by kernel_rfl) ct (by kernel_rfl) (World.alloc_heap_new _ _) (by rw[yD,bd.o];kernel_rfl) (AU (n:=51) (by kernel_rfl) bd.o) d7.o ?_;intro X1 du;have ci:=yb du;clear du))
   refine ei.o _ _ ?_
   clear ei
   have s:Hid (TB F wr 51 (.string nm::(An dn++(c0++(c1++(c2++(c3++(c4++(c5++(c6++c7))))))))) X1):=yb (by rw[<-fc.o];exact Fp ci.o)
   have A:Hid (J bb X1):=yb (HC.o.stab _ _ _ HJ.o (fun k hk=>(AA ci.o).block k (by have:=ay.o k hk;have:=a8.o;omega)) (AA ci.o).size)
   have f:Hid (VE G ((bl++ob (.slice va vn vc))++[wr.heap.size]) X1 [c0,c1,c2,c3,c4,c5,c6,c7] [e0,e1,e2,e3,e4,e5,e6,e7]):=yb (Az.mono (fun _ _ h=>h.flux ((HM.o.ms.bx.trans (s.o.bx.mono HM.o.ms.bx.size)).flux (yf _) aa.o) (fun k hk=>hk.imp (fun h=>h) (fun h=>(ba.o k h).1))) dv.o)
   clear ci dt dv
   obtain ⟨rc,cz⟩:∃r:Rf,r=if i=0 then dn else g 2 dn:=⟨_,rfl⟩
   obtain ⟨qc,ee⟩:∃r:Bool,r=if i=0 then true else q 2 dn:=⟨_,rfl⟩
   have cd:=yb cz;have cr:=yb ee
   have ev:Hid (rc.name.size<=maxLen):=yb (by rw[cz];split;exact d6.o;exact HC.o.name _ _ d6.o)
   clear cz ee
   refine Af fun K2 dz=>?_
   have bt:Hid (∀(z:Nat->Value) (Y:World),TB F wr 51 (.string nm::(An rc++(c0++(c1++(c2++(c3++(c4++(c5++(c6++c7))))))))) Y->VE G ((bl++ob (.slice va vn vc))++[wr.heap.size]) Y [c0,c1,c2,c3,c4,c5,c6,c7] [e0,e1,e2,e3,e4,e5,e6,e7]->J (bb&&qc) Y->K2 ⟨IX id caps w u z (.slice (some (aV bq oq)) n c) n i wr.heap.size,[]⟩ Y):=yb (by
    intro z Y S U hj
    clear s A f
    have s:=yb S;have f:=yb U;have A:=yb hj
    clear S U hj
    unfold IX
    refine dz.o _ _ ?_
    refine Af fun K3 fb=>?_
    obtain ⟨RW,ax⟩:∃r:LV,r=(.string nm::(An rc++(c0++(c1++(c2++(c3++(c4++(c5++(c6++c7))))))))):=⟨_,rfl⟩
    have ah:=yb ax
    rw[<-ax] at s
    clear ax
    obtain ⟨w0,w1,w2,w3,w4,w5,w6,w7,_⟩:=f.o
    have ai:=yb w0.len
    have al:=yb w1.len
    have aj:=yb w2.len
    have ak:=yb w3.len
    have av:=yb w4.len
    have au:=yb w5.len
    have aw:=yb w6.len
    have aq:=yb w7.len
    clear w0 w1 w2 w3 w4 w5 w6 w7
    have S:=s.o.drew;have U:=f.o.drew;have hj:=HC.o.stab _ _ Y.drew A.o (fun _ _=>rfl) (yf _)
    clear s f A
    have s:=yb S;have f:=yb U;have A:=yb hj
    clear S U hj
    have a1:Hid (∀k,F k->k < wr.heap.size):=yb (fun k hk=>by have:=ay.o k hk;have:=a8.o;omega)
    refine wp_region_noPanic ?_
    refine BZ (by kernel_rfl) (fun W=>W.heap[wr.heap.size]?=some (.cells RW.toArray 51 (0,0))) 17 ?_
    refine A1 (i:=0) (v:=pV wr.heap.size 3) rfl (by kernel_rfl) (by kernel_rfl) (by kernel_rfl) (fun _ _ _ h=>h) (by kernel_rfl) (Or.inl ⟨by rfl,?_⟩) (fun _=>s.o.row) ?_
    ·intro w _;go_simp
    refine Aj (i:=1) (v:=.agg (c0).toArray) rfl (by kernel_rfl) (by kernel_rfl) (by kernel_rfl) (fun _ _ _ h=>h) (by kernel_rfl) (yS (by rfl) 26 _ rfl (wr.heap.size) 3 (by kernel_rfl) (c0) _ (fun W hW=>BT hW (p:=(.string nm::(An rc++([]:LV)))) (q:=(c1++(c2++(c3++(c4++(c5++(c6++c7))))))) (by rw[ah.o];simp) (by simp[A8,ai.o,al.o,aj.o,ak.o,av.o,au.o,aw.o,aq.o])) qD rfl (Ci ai.o)) s.o.row ?_
    refine A1 (i:=2) (v:=.func (.func id) #[] caps) rfl (by kernel_rfl) (by kernel_rfl) (by kernel_rfl) (fun _ _ _ h=>h) (by kernel_rfl) (Or.inl ⟨by rfl,?_⟩) (fun _=>s.o.row) ?_
    ·intro w _;go_simp
    refine A1 (i:=4) (v:=pV wr.heap.size 9) rfl (by kernel_rfl) (by kernel_rfl) (by kernel_rfl) (fun _ _ _ h=>h) (by kernel_rfl) (Or.inl ⟨by rfl,?_⟩) (fun _=>s.o.row) ?_
    ·intro w _;go_simp
    refine Aj (i:=5) (v:=.agg (c1).toArray) rfl (by kernel_rfl) (by kernel_rfl) (by kernel_rfl) (fun _ _ _ h=>h) (by kernel_rfl) (yS (by rfl) 26 _ rfl (wr.heap.size) 9 (by kernel_rfl) (c1) _ (fun W hW=>BT hW (p:=(.string nm::(An rc++(c0++([]:LV))))) (q:=(c2++(c3++(c4++(c5++(c6++c7)))))) (by rw[ah.o];simp) (by simp[A8,ai.o,al.o,aj.o,ak.o,av.o,au.o,aw.o,aq.o])) qD rfl (Ci al.o)) s.o.row ?_
    refine A1 (i:=6) (v:=.func (.func id) #[] caps) rfl (by kernel_rfl) (by kernel_rfl) (by kernel_rfl) (fun _ _ _ h=>h) (by kernel_rfl) (Or.inl ⟨by rfl,?_⟩) (fun _=>s.o.row) ?_
    ·intro w _;go_simp
    refine A1 (i:=8) (v:=pV wr.heap.size 15) rfl (by kernel_rfl) (by kernel_rfl) (by kernel_rfl) (fun _ _ _ h=>h) (by kernel_rfl) (Or.inl ⟨by rfl,?_⟩) (fun _=>s.o.row) ?_
    ·intro w _;go_simp
    refine Aj (i:=9) (v:=.agg (c2).toArray) rfl (by kernel_rfl) (by kernel_rfl) (by kernel_rfl) (fun _ _ _ h=>h) (by kernel_rfl) (yS (by rfl) 26 _ rfl (wr.heap.size) 15 (by kernel_rfl) (c2) _ (fun W hW=>BT hW (p:=(.string nm::(An rc++(c0++(c1++([]:LV)))))) (q:=(c3++(c4++(c5++(c6++c7))))) (by rw[ah.o];simp) (by simp[A8,ai.o,al.o,aj.o,ak.o,av.o,au.o,aw.o,aq.o])) qD rfl (Ci aj.o)) s.o.row ?_
    refine A1 (i:=10) (v:=.func (.func id) #[] caps) rfl (by kernel_rfl) (by kernel_rfl) (by kernel_rfl) (fun _ _ _ h=>h) (by kernel_rfl) (Or.inl ⟨by rfl,?_⟩) (fun _=>s.o.row) ?_
    ·intro w _;go_simp
    refine A1 (i:=12) (v:=pV wr.heap.size 21) rfl (by kernel_rfl) (by kernel_rfl) (by kernel_rfl) (fun _ _ _ h=>h) (by kernel_rfl) (Or.inl ⟨by rfl,?_⟩) (fun _=>s.o.row) ?_
    ·intro w _;go_simp
    refine Aj (i:=13) (v:=.agg (c3).toArray) rfl (by kernel_rfl) (by kernel_rfl) (by kernel_rfl) (fun _ _ _ h=>h) (by kernel_rfl) (yS (by rfl) 26 _ rfl (wr.heap.size) 21 (by kernel_rfl) (c3) _ (fun W hW=>BT hW (p:=(.string nm::(An rc++(c0++(c1++(c2++([]:LV))))))) (q:=(c4++(c5++(c6++c7)))) (by rw[ah.o];simp) (by simp[A8,ai.o,al.o,aj.o,ak.o,av.o,au.o,aw.o,aq.o])) qD rfl (Ci ak.o)) s.o.row ?_
    refine A1 (i:=14) (v:=.func (.func id) #[] caps) rfl (by kernel_rfl) (by kernel_rfl) (by kernel_rfl) (fun _ _ _ h=>h) (by kernel_rfl) (Or.inl ⟨by rfl,?_⟩) (fun _=>s.o.row) ?_
    ·intro w _;go_simp
    refine A0 (i:=3) (by kernel_rfl) rfl (fun K T=>?_)
    go_simp
    have V:=yb (Bn HC.o e0 (FL G ((bl++ob (.slice va vn vc))++[wr.heap.size])) ((bb&&qc)) Y.drew c0 az.o.1 A.o (by obtain ⟨w0,w1,w2,w3,w4,w5,w6,w7,_⟩:=f.o;exact w0) (fun k hk=>.inl (aa.o k hk)) (fun k hk=>by
     have h1:=s.o.lt;have h2:=a8.o
     rcases hk with hk|hk
     ·have:=HG.o k hk;omega
     ·have:=(ba.o k hk).2;omega))
    refine V.o.mono ?_
    rintro e Z0 ⟨C,rfl,a0,a6,Z⟩
    have S:=s.o.call a1.o Z
    have U:VE G ((bl++ob (.slice va vn vc))++[wr.heap.size]) Z0 [C,c1,c2,c3,c4,c5,c6,c7] [AQ g e0,e1,e2,e3,e4,e5,e6,e7]:=by
     obtain ⟨w0,w1,w2,w3,w4,w5,w6,w7,_⟩:=f.o.bcall Z aa.o
     exact ⟨a0,w1,w2,w3,w4,w5,w6,w7,trivial⟩
    have b8:=yb a0.len
    refine T.o _ _ (fun _=>S.row) ?_
    clear T K s f A V a0 Z
    have s:=yb S;have f:=yb U;have A:=yb a6
    clear S U a6
    refine A0 (i:=7) (by kernel_rfl) rfl (fun K T=>?_)
    go_simp
    have V:=yb (Bn HC.o e1 (FL G ((bl++ob (.slice va vn vc))++[wr.heap.size])) (((bb&&qc)&&Bh q e0)) Z0 c1 az.o.2.1 A.o (by obtain ⟨w0,w1,w2,w3,w4,w5,w6,w7,_⟩:=f.o;exact w1) (fun k hk=>.inl (aa.o k hk)) (fun k hk=>by
     have h1:=s.o.lt;have h2:=a8.o
     rcases hk with hk|hk
     ·have:=HG.o k hk;omega
     ·have:=(ba.o k hk).2;omega))
    refine V.o.mono ?_
    rintro e Z1 ⟨E,rfl,a0,a6,Z⟩
    have S:=s.o.call a1.o Z
    have U:VE G ((bl++ob (.slice va vn vc))++[wr.heap.size]) Z1 [C,E,c2,c3,c4,c5,c6,c7] [AQ g e0,AQ g e1,e2,e3,e4,e5,e6,e7]:=by
     obtain ⟨w0,w1,w2,w3,w4,w5,w6,w7,_⟩:=f.o.bcall Z aa.o
     exact ⟨w0,a0,w2,w3,w4,w5,w6,w7,trivial⟩
    have b3:=yb a0.len
    refine T.o _ _ (fun _=>S.row) ?_
    clear T K s f A V a0 Z
    have s:=yb S;have f:=yb U;have A:=yb a6
    clear S U a6
    refine A0 (i:=11) (by kernel_rfl) rfl (fun K T=>?_)
    go_simp
    have V:=yb (Bn HC.o e2 (FL G ((bl++ob (.slice va vn vc))++[wr.heap.size])) ((((bb&&qc)&&Bh q e0)&&Bh q e1)) Z1 c2 az.o.2.2.1 A.o (by obtain ⟨w0,w1,w2,w3,w4,w5,w6,w7,_⟩:=f.o;exact w2) (fun k hk=>.inl (aa.o k hk)) (fun k hk=>by
     have h1:=s.o.lt;have h2:=a8.o
     rcases hk with hk|hk
     ·have:=HG.o k hk;omega
     ·have:=(ba.o k hk).2;omega))
    refine V.o.mono ?_
    rintro e Z2 ⟨H,rfl,a0,a6,Z⟩
    have S:=s.o.call a1.o Z
    have U:VE G ((bl++ob (.slice va vn vc))++[wr.heap.size]) Z2 [C,E,H,c3,c4,c5,c6,c7] [AQ g e0,AQ g e1,AQ g e2,e3,e4,e5,e6,e7]:=by
     obtain ⟨w0,w1,w2,w3,w4,w5,w6,w7,_⟩:=f.o.bcall Z aa.o
     exact ⟨w0,w1,a0,w3,w4,w5,w6,w7,trivial⟩
    have b4:=yb a0.len
    refine T.o _ _ (fun _=>S.row) ?_
    clear T K s f A V a0 Z
    have s:=yb S;have f:=yb U;have A:=yb a6
    clear S U a6
    refine A0 (i:=15) (by kernel_rfl) rfl (fun K T=>?_)
    go_simp
    have V:=yb (Bn HC.o e3 (FL G ((bl++ob (.slice va vn vc))++[wr.heap.size])) (((((bb&&qc)&&Bh q e0)&&Bh q e1)&&Bh q e2)) Z2 c3 az.o.2.2.2.1 A.o (by obtain ⟨w0,w1,w2,w3,w4,w5,w6,w7,_⟩:=f.o;exact w3) (fun k hk=>.inl (aa.o k hk)) (fun k hk=>by
     have h1:=s.o.lt;have h2:=a8.o
     rcases hk with hk|hk
     ·have:=HG.o k hk;omega
     ·have:=(ba.o k hk).2;omega))
    refine V.o.mono ?_
    rintro e Z3 ⟨M,rfl,a0,a6,Z⟩
    have S:=s.o.call a1.o Z
    have U:VE G ((bl++ob (.slice va vn vc))++[wr.heap.size]) Z3 [C,E,H,M,c4,c5,c6,c7] [AQ g e0,AQ g e1,AQ g e2,AQ g e3,e4,e5,e6,e7]:=by
     obtain ⟨w0,w1,w2,w3,w4,w5,w6,w7,_⟩:=f.o.bcall Z aa.o
     exact ⟨w0,w1,w2,a0,w4,w5,w6,w7,trivial⟩
    have b5:=yb a0.len
    refine T.o _ _ (fun _=>S.row) ?_
    clear T K s f A V a0 Z
    have s:=yb S;have f:=yb U;have A:=yb a6
    clear S U a6
    rw[ah.o] at s
    refine A0 (i:=16) (by kernel_rfl) rfl (fun K T=>?_)
    go_simp
    refine T.o _ _ (fun _=>by rw[ah.o];exact s.o.row) ?_
    clear T K
    refine A0 (i:=17) (by kernel_rfl) rfl (fun K T=>?_)
    rw[yw (by rfl)]
    refine A9 26 _ _ rfl wr.heap.size 3 (by kernel_rfl) C (by kernel_rfl) (p:=(.string nm::(An rc++([]:LV)))) (m:=c0) (q:=(c1++(c2++(c3++(c4++(c5++(c6++c7))))))) (t:=51) (by have h:=s.o.row;simpa using h) (by simp[A8,ai.o,al.o,aj.o,ak.o,av.o,au.o,aw.o,aq.o,b8.o,b3.o,b4.o,b5.o]) (by rw[ai.o,b8.o]) (Ci b8.o) (Ao (by obtain ⟨w0,w1,w2,w3,w4,w5,w6,w7,_⟩:=f.o;exact w0)) ?_
    intro S0 a2
    have O:Au Z3 S0 wr.heap.size (.string nm::(An rc++(C++(c1++(c2++(c3++(c4++(c5++(c6++c7))))))))) 51:=by simpa using a2
    refine T.o _ _ (by intro h;cases h) ?_
    have S:=s.o.wrote O;have U:=f.o.wrt O (by simp);have hj:=HC.o.stab _ _ _ A.o (fun k hk=>O.block k (by have:=a1.o k hk;omega)) (by rw[O.size];exact yf _)
    clear T K s f A a2 O
    have s:=yb S;have f:=yb U;have A:=yb hj
    clear S U hj
    refine A0 (i:=18) (by kernel_rfl) rfl (fun K T=>?_)
    go_simp
    refine T.o _ _ (by intro h;cases h) ?_
    clear T K
    refine A0 (i:=19) (by kernel_rfl) rfl (fun K T=>?_)
    rw[yw (by rfl)]
    refine A9 26 _ _ rfl wr.heap.size 9 (by kernel_rfl) E (by kernel_rfl) (p:=(.string nm::(An rc++(C++([]:LV))))) (m:=c1) (q:=(c2++(c3++(c4++(c5++(c6++c7)))))) (t:=51) (by have h:=s.o.row;simpa using h) (by simp[A8,ai.o,al.o,aj.o,ak.o,av.o,au.o,aw.o,aq.o,b8.o,b3.o,b4.o,b5.o]) (by rw[al.o,b3.o]) (Ci b3.o) (Ao (by obtain ⟨w0,w1,w2,w3,w4,w5,w6,w7,_⟩:=f.o;exact w1)) ?_
    intro S1 a2
    have O:Au S0 S1 wr.heap.size (.string nm::(An rc++(C++(E++(c2++(c3++(c4++(c5++(c6++c7))))))))) 51:=by simpa using a2
    refine T.o _ _ (by intro h;cases h) ?_
    have S:=s.o.wrote O;have U:=f.o.wrt O (by simp);have hj:=HC.o.stab _ _ _ A.o (fun k hk=>O.block k (by have:=a1.o k hk;omega)) (by rw[O.size];exact yf _)
    clear T K s f A a2 O
    have s:=yb S;have f:=yb U;have A:=yb hj
    clear S U hj
    refine A0 (i:=20) (by kernel_rfl) rfl (fun K T=>?_)
    go_simp
    refine T.o _ _ (by intro h;cases h) ?_
    clear T K
    refine A0 (i:=21) (by kernel_rfl) rfl (fun K T=>?_)
    rw[yw (by rfl)]
    refine A9 26 _ _ rfl wr.heap.size 15 (by kernel_rfl) H (by kernel_rfl) (p:=(.string nm::(An rc++(C++(E++([]:LV)))))) (m:=c2) (q:=(c3++(c4++(c5++(c6++c7))))) (t:=51) (by have h:=s.o.row;simpa using h) (by simp[A8,ai.o,al.o,aj.o,ak.o,av.o,au.o,aw.o,aq.o,b8.o,b3.o,b4.o,b5.o]) (by rw[aj.o,b4.o]) (Ci b4.o) (Ao (by obtain ⟨w0,w1,w2,w3,w4,w5,w6,w7,_⟩:=f.o;exact w2)) ?_
    intro S2 a2
    have O:Au S1 S2 wr.heap.size (.string nm::(An rc++(C++(E++(H++(c3++(c4++(c5++(c6++c7))))))))) 51:=by simpa using a2
    refine T.o _ _ (by intro h;cases h) ?_
    have S:=s.o.wrote O;have U:=f.o.wrt O (by simp);have hj:=HC.o.stab _ _ _ A.o (fun k hk=>O.block k (by have:=a1.o k hk;omega)) (by rw[O.size];exact yf _)
    clear T K s f A a2 O
    have s:=yb S;have f:=yb U;have A:=yb hj
    clear S U hj
    refine A0 (i:=22) (by kernel_rfl) rfl (fun K T=>?_)
    go_simp
    refine T.o _ _ (by intro h;cases h) ?_
    clear T K
    refine A0 (i:=23) (by kernel_rfl) rfl (fun K T=>?_)
    rw[yw (by rfl)]
    refine A9 26 _ _ rfl wr.heap.size 21 (by kernel_rfl) M (by kernel_rfl) (p:=(.string nm::(An rc++(C++(E++(H++([]:LV))))))) (m:=c3) (q:=(c4++(c5++(c6++c7)))) (t:=51) (by have h:=s.o.row;simpa using h) (by simp[A8,ai.o,al.o,aj.o,ak.o,av.o,au.o,aw.o,aq.o,b8.o,b3.o,b4.o,b5.o]) (by rw[ak.o,b5.o]) (Ci b5.o) (Ao (by obtain ⟨w0,w1,w2,w3,w4,w5,w6,w7,_⟩:=f.o;exact w3)) ?_
    intro S3 a2
    have O:Au S2 S3 wr.heap.size (.string nm::(An rc++(C++(E++(H++(M++(c4++(c5++(c6++c7))))))))) 51:=by simpa using a2
    refine T.o _ _ (by intro h;cases h) ?_
    have S:=s.o.wrote O;have U:=f.o.wrt O (by simp);have hj:=HC.o.stab _ _ _ A.o (fun k hk=>O.block k (by have:=a1.o k hk;omega)) (by rw[O.size];exact yf _)
    clear T K s f A a2 O
    have s:=yb S;have f:=yb U;have A:=yb hj
    clear S U hj
    refine AF (by kernel_rfl) ?_
    refine NoPanic.normal ?_
    refine fb.o _ _ ?_
    refine Af fun K5 fd=>?_
    obtain ⟨I2,cu⟩:∃I2:Nat->World->Prop,I2=fun t Y=>(t=0->TB F wr 51 (.string nm::(An rc++(C++(E++(H++(M++(c4++(c5++(c6++c7))))))))) Y∧VE G ((bl++ob (.slice va vn vc))++[wr.heap.size]) Y [C,E,H,M,c4,c5,c6,c7] [AQ g e0,AQ g e1,AQ g e2,AQ g e3,e4,e5,e6,e7]∧J (((((bb&&qc)&&Bh q e0)&&Bh q e1)&&Bh q e2)&&Bh q e3) Y)∧(t=1->∃Q R:LV,TB F wr 51 (.string nm::(An rc++(C++(E++(H++(M++(Q++(c5++(R++c7))))))))) Y∧VE G ((bl++ob (.slice va vn vc))++[wr.heap.size]) Y [C,E,H,M,Q,c5,R,c7] [AQ g e0,AQ g e1,AQ g e2,AQ g e3,AQ g e4,e5,AQ g e6,e7]∧J (((((((bb&&qc)&&Bh q e0)&&Bh q e1)&&Bh q e2)&&Bh q e3)&&Bh q e4)&&Bh q e6) Y)∧(t=2->∃Q R:LV,∃a7 ad:LV,TB F wr 51 (.string nm::(An rc++(C++(E++(H++(M++(Q++(a7++(R++ad))))))))) Y∧VE G ((bl++ob (.slice va vn vc))++[wr.heap.size]) Y [C,E,H,M,Q,a7,R,ad] [AQ g e0,AQ g e1,AQ g e2,AQ g e3,AQ g e4,AQ g e5,AQ g e6,AQ g e7]∧J (((((((((bb&&qc)&&Bh q e0)&&Bh q e1)&&Bh q e2)&&Bh q e3)&&Bh q e4)&&Bh q e6)&&Bh q e5)&&Bh q e7) Y):=⟨_,rfl⟩
    have cn:Hid (I2 0 S3):=yb (by rw[cu];exact ⟨fun _=>⟨s.o,f.o,A.o⟩,fun h=>by omega,fun h=>by omega⟩)
    have d8:=yb cu
    clear s f A cu
    obtain ⟨wo,rfl⟩:∃wo:World,wo=wr:=⟨_,rfl⟩
    go_wp2
    go_loopw [118] (fun tv X=>∃t:Nat,tv=iV t∧t<=2∧Hid (I2 t X)) (fun tv _=>2 - (intOf tv).toNat)
    case atStart=>exact ⟨0,rfl,by omega,cn⟩
    case round=>
     clear cn
     obtain ⟨t,rfl,ht,bv⟩:=hrel
     obtain ⟨cl,cg,ce⟩:(t=0->TB F wo 51 (.string nm::(An rc++(C++(E++(H++(M++(c4++(c5++(c6++c7))))))))) wr∧VE G ((bl++ob (.slice va vn vc))++[wo.heap.size]) wr [C,E,H,M,c4,c5,c6,c7] [AQ g e0,AQ g e1,AQ g e2,AQ g e3,e4,e5,e6,e7]∧J (((((bb&&qc)&&Bh q e0)&&Bh q e1)&&Bh q e2)&&Bh q e3) wr)∧(t=1->∃Q R:LV,TB F wo 51 (.string nm::(An rc++(C++(E++(H++(M++(Q++(c5++(R++c7))))))))) wr∧VE G ((bl++ob (.slice va vn vc))++[wo.heap.size]) wr [C,E,H,M,Q,c5,R,c7] [AQ g e0,AQ g e1,AQ g e2,AQ g e3,AQ g e4,e5,AQ g e6,e7]∧J (((((((bb&&qc)&&Bh q e0)&&Bh q e1)&&Bh q e2)&&Bh q e3)&&Bh q e4)&&Bh q e6) wr)∧(t=2->∃Q R:LV,∃a7 ad:LV,TB F wo 51 (.string nm::(An rc++(C++(E++(H++(M++(Q++(a7++(R++ad))))))))) wr∧VE G ((bl++ob (.slice va vn vc))++[wo.heap.size]) wr [C,E,H,M,Q,a7,R,ad] [AQ g e0,AQ g e1,AQ g e2,AQ g e3,AQ g e4,AQ g e5,AQ g e6,AQ g e7]∧J (((((((((bb&&qc)&&Bh q e0)&&Bh q e1)&&Bh q e2)&&Bh q e3)&&Bh q e4)&&Bh q e6)&&Bh q e5)&&Bh q e7) wr):=by have h:=bv.o;rw[d8.o] at h;exact h
     clear bv
     by_cases ch:t=0
     ·obtain ⟨S,U,hJ⟩:=cl ch
      subst ch
      clear cl cg ce ht
      have s:=yb S;have f:=yb U;have A:=yb hJ
      clear S U hJ
      go_upto_block 7 with fail
      refine wp_block ?_
      refine Af fun K7 d0=>?_
      go_wp2
      refine d0.o _ _ ?_
      obtain ⟨RW,ax⟩:∃r:LV,r=(.string nm::(An rc++(C++(E++(H++(M++(c4++(c5++(c6++c7))))))))):=⟨_,rfl⟩
      have ah:=yb ax
      rw[<-ax] at s
      clear ax
      obtain ⟨w0,w1,w2,w3,w4,w5,w6,w7,_⟩:=f.o
      have ap:=yb w0.len
      have am:=yb w1.len
      have an:=yb w2.len
      have ao:=yb w3.len
      have ag:=yb w4.len
      have ac:=yb w5.len
      have ae:=yb w6.len
      have af:=yb w7.len
      clear w0 w1 w2 w3 w4 w5 w6 w7
      have S:=s.o.drew;have U:=f.o.drew;have hj:=HC.o.stab _ _ wr.drew A.o (fun _ _=>rfl) (yf _)
      clear s f A
      have s:=yb S;have f:=yb U;have A:=yb hj
      clear S U hj
      have a1:Hid (∀k,F k->k < wo.heap.size):=yb (fun k hk=>by have:=ay.o k hk;have:=a8.o;omega)
      refine wp_region_noPanic ?_
      refine BZ (by kernel_rfl) (fun W=>W.heap[wo.heap.size]?=some (.cells RW.toArray 51 (0,0))) 16 ?_
      refine A1 (i:=0) (v:=iV 0) rfl (by kernel_rfl) (by kernel_rfl) (by kernel_rfl) (fun _ _ _ h=>h) (by kernel_rfl) (Or.inl ⟨by rfl,?_⟩) (fun _=>s.o.row) ?_
      ·intro w _;go_simp
      refine A1 (i:=1) (v:=iV 0) rfl (by kernel_rfl) (by kernel_rfl) (by kernel_rfl) (fun _ _ _ h=>h) (by kernel_rfl) (Or.inl ⟨by rfl,?_⟩) (fun _=>s.o.row) ?_
      ·intro w _;go_simp
      refine A1 (i:=2) (v:=iV 0) rfl (by kernel_rfl) (by kernel_rfl) (by kernel_rfl) (fun _ _ _ h=>h) (by kernel_rfl) (Or.inl ⟨by rfl,?_⟩) (fun _=>s.o.row) ?_
      ·intro w _;go_simp
      refine A1 (i:=3) (v:=pV wo.heap.size 27) rfl (by kernel_rfl) (by kernel_rfl) (by kernel_rfl) (fun _ _ _ h=>h) (by kernel_rfl) (Or.inl ⟨by rfl,?_⟩) (fun _=>s.o.row) ?_
      ·intro w _;go_simp
      refine A1 (i:=4) (v:=pV wo.heap.size 27) rfl (by kernel_rfl) (by kernel_rfl) (by kernel_rfl) (fun _ _ _ h=>h) (by kernel_rfl) (Or.inl ⟨by rfl,?_⟩) (fun _=>s.o.row) ?_
      ·intro w _;go_simp
      refine Aj (i:=5) (v:=.agg (c4).toArray) rfl (by kernel_rfl) (by kernel_rfl) (by kernel_rfl) (fun _ _ _ h=>h) (by kernel_rfl) (yS (by rfl) 26 _ rfl (wo.heap.size) 27 (by kernel_rfl) (c4) _ (fun W hW=>BT hW (p:=(.string nm::(An rc++(C++(E++(H++(M++([]:LV)))))))) (q:=(c5++(c6++c7))) (by rw[ah.o];simp) (by simp[A8,ap.o,am.o,an.o,ao.o,ag.o,ac.o,ae.o,af.o])) qD rfl (Ci ag.o)) s.o.row ?_
      refine A1 (i:=6) (v:=.func (.func id) #[] caps) rfl (by kernel_rfl) (by kernel_rfl) (by kernel_rfl) (fun _ _ _ h=>h) (by kernel_rfl) (Or.inl ⟨by rfl,?_⟩) (fun _=>s.o.row) ?_
      ·intro w _;go_simp
      refine A1 (i:=8) (v:=iV 0) rfl (by kernel_rfl) (by kernel_rfl) (by kernel_rfl) (fun _ _ _ h=>h) (by kernel_rfl) (Or.inl ⟨by rfl,?_⟩) (fun _=>s.o.row) ?_
      ·intro w _;go_simp
      refine A1 (i:=9) (v:=pV wo.heap.size 39) rfl (by kernel_rfl) (by kernel_rfl) (by kernel_rfl) (fun _ _ _ h=>h) (by kernel_rfl) (Or.inl ⟨by rfl,?_⟩) (fun _=>s.o.row) ?_
      ·intro w _;go_simp
      refine A1 (i:=10) (v:=pV wo.heap.size 39) rfl (by kernel_rfl) (by kernel_rfl) (by kernel_rfl) (fun _ _ _ h=>h) (by kernel_rfl) (Or.inl ⟨by rfl,?_⟩) (fun _=>s.o.row) ?_
      ·intro w _;go_simp
      refine Aj (i:=11) (v:=.agg (c6).toArray) rfl (by kernel_rfl) (by kernel_rfl) (by kernel_rfl) (fun _ _ _ h=>h) (by kernel_rfl) (yS (by rfl) 26 _ rfl (wo.heap.size) 39 (by kernel_rfl) (c6) _ (fun W hW=>BT hW (p:=(.string nm::(An rc++(C++(E++(H++(M++(c4++(c5++([]:LV)))))))))) (q:=c7) (by rw[ah.o];simp) (by simp[A8,ap.o,am.o,an.o,ao.o,ag.o,ac.o,ae.o,af.o])) qD rfl (Ci ae.o)) s.o.row ?_
      refine A1 (i:=12) (v:=.func (.func id) #[] caps) rfl (by kernel_rfl) (by kernel_rfl) (by kernel_rfl) (fun _ _ _ h=>h) (by kernel_rfl) (Or.inl ⟨by rfl,?_⟩) (fun _=>s.o.row) ?_
      ·intro w _;go_simp
      refine A1 (i:=14) (v:=pV wo.heap.size 27) rfl (by kernel_rfl) (by kernel_rfl) (by kernel_rfl) (fun _ _ _ h=>h) (by kernel_rfl) (Or.inl ⟨by rfl,?_⟩) (fun _=>s.o.row) ?_
      ·intro w _;go_simp
      refine A1 (i:=17) (v:=pV wo.heap.size 39) rfl (by kernel_rfl) (by kernel_rfl) (by kernel_rfl) (fun _ _ _ h=>h) (by kernel_rfl) (Or.inl ⟨by rfl,?_⟩) (fun _=>s.o.row) ?_
      ·intro w _;go_simp
      refine A0 (i:=7) (by kernel_rfl) rfl (fun K T=>?_)
      go_simp
      have V:=yb (Bn HC.o e4 (FL G ((bl++ob (.slice va vn vc))++[wo.heap.size])) ((((((bb&&qc)&&Bh q e0)&&Bh q e1)&&Bh q e2)&&Bh q e3)) wr.drew c4 az.o.2.2.2.2.1 A.o (by obtain ⟨w0,w1,w2,w3,w4,w5,w6,w7,_⟩:=f.o;exact w4) (fun k hk=>.inl (aa.o k hk)) (fun k hk=>by
       have h1:=s.o.lt;have h2:=a8.o
       rcases hk with hk|hk
       ·have:=HG.o k hk;omega
       ·have:=(ba.o k hk).2;omega))
      refine V.o.mono ?_
      rintro e Z0 ⟨Q,rfl,a0,a6,Z⟩
      have S:=s.o.call a1.o Z
      have U:VE G ((bl++ob (.slice va vn vc))++[wo.heap.size]) Z0 [C,E,H,M,Q,c5,c6,c7] [AQ g e0,AQ g e1,AQ g e2,AQ g e3,AQ g e4,e5,e6,e7]:=by
       obtain ⟨w0,w1,w2,w3,w4,w5,w6,w7,_⟩:=f.o.bcall Z aa.o
       exact ⟨w0,w1,w2,w3,a0,w5,w6,w7,trivial⟩
      have bh:=yb a0.len
      refine T.o _ _ (fun _=>S.row) ?_
      clear T K s f A V a0 Z
      have s:=yb S;have f:=yb U;have A:=yb a6
      clear S U a6
      refine A0 (i:=13) (by kernel_rfl) rfl (fun K T=>?_)
      go_simp
      have V:=yb (Bn HC.o e6 (FL G ((bl++ob (.slice va vn vc))++[wo.heap.size])) (((((((bb&&qc)&&Bh q e0)&&Bh q e1)&&Bh q e2)&&Bh q e3)&&Bh q e4)) Z0 c6 az.o.2.2.2.2.2.2.1 A.o (by obtain ⟨w0,w1,w2,w3,w4,w5,w6,w7,_⟩:=f.o;exact w6) (fun k hk=>.inl (aa.o k hk)) (fun k hk=>by
       have h1:=s.o.lt;have h2:=a8.o
       rcases hk with hk|hk
       ·have:=HG.o k hk;omega
       ·have:=(ba.o k hk).2;omega))
      refine V.o.mono ?_
      rintro e Z1 ⟨R,rfl,a0,a6,Z⟩
      have S:=s.o.call a1.o Z
      have U:VE G ((bl++ob (.slice va vn vc))++[wo.heap.size]) Z1 [C,E,H,M,Q,c5,R,c7] [AQ g e0,AQ g e1,AQ g e2,AQ g e3,AQ g e4,e5,AQ g e6,e7]:=by
       obtain ⟨w0,w1,w2,w3,w4,w5,w6,w7,_⟩:=f.o.bcall Z aa.o
       exact ⟨w0,w1,w2,w3,w4,w5,a0,w7,trivial⟩
      have co:=yb a0.len
      refine T.o _ _ (fun _=>S.row) ?_
      clear T K s f A V a0 Z
      have s:=yb S;have f:=yb U;have A:=yb a6
      clear S U a6
      rw[ah.o] at s
      refine A0 (i:=15) (by kernel_rfl) rfl (fun K T=>?_)
      go_simp
      refine T.o _ _ (fun _=>by rw[ah.o];exact s.o.row) ?_
      clear T K
      refine A0 (i:=16) (by kernel_rfl) rfl (fun K T=>?_)
      rw[yw (by rfl)]
      refine A9 26 _ _ rfl wo.heap.size 27 (by kernel_rfl) Q (by kernel_rfl) (p:=(.string nm::(An rc++(C++(E++(H++(M++([]:LV)))))))) (m:=c4) (q:=(c5++(c6++c7))) (t:=51) (by have h:=s.o.row;simpa using h) (by simp[A8,ap.o,am.o,an.o,ao.o,ag.o,ac.o,ae.o,af.o,bh.o]) (by rw[ag.o,bh.o]) (Ci bh.o) (Ao (by obtain ⟨w0,w1,w2,w3,w4,w5,w6,w7,_⟩:=f.o;exact w4)) ?_
      intro S0 a2
      have O:Au Z1 S0 wo.heap.size (.string nm::(An rc++(C++(E++(H++(M++(Q++(c5++(c6++c7))))))))) 51:=by simpa using a2
      refine T.o _ _ (by intro h;cases h) ?_
      have S:=s.o.wrote O;have U:=f.o.wrt O (by simp);have hj:=HC.o.stab _ _ _ A.o (fun k hk=>O.block k (by have:=a1.o k hk;omega)) (by rw[O.size];exact yf _)
      clear T K s f A a2 O
      have s:=yb S;have f:=yb U;have A:=yb hj
      clear S U hj
      refine A0 (i:=18) (by kernel_rfl) rfl (fun K T=>?_)
      go_simp
      refine T.o _ _ (by intro h;cases h) ?_
      clear T K
      refine A0 (i:=19) (by kernel_rfl) rfl (fun K T=>?_)
      rw[yw (by rfl)]
      refine A9 26 _ _ rfl wo.heap.size 39 (by kernel_rfl) R (by kernel_rfl) (p:=(.string nm::(An rc++(C++(E++(H++(M++(Q++(c5++([]:LV)))))))))) (m:=c6) (q:=c7) (t:=51) (by have h:=s.o.row;simpa using h) (by simp[A8,ap.o,am.o,an.o,ao.o,ag.o,ac.o,ae.o,af.o,bh.o]) (by rw[ae.o,co.o]) (Ci co.o) (Ao (by obtain ⟨w0,w1,w2,w3,w4,w5,w6,w7,_⟩:=f.o;exact w6)) ?_
      intro S1 a2
      have O:Au S0 S1 wo.heap.size (.string nm::(An rc++(C++(E++(H++(M++(Q++(c5++(R++c7))))))))) 51:=by simpa using a2
      refine T.o _ _ (by intro h;cases h) ?_
      have S:=s.o.wrote O;have U:=f.o.wrt O (by simp);have hj:=HC.o.stab _ _ _ A.o (fun k hk=>O.block k (by have:=a1.o k hk;omega)) (by rw[O.size];exact yf _)
      clear T K s f A a2 O
      have s:=yb S;have f:=yb U;have A:=yb hj
      clear S U hj
      refine AF (by kernel_rfl) ?_
      refine NoPanic.normal ?_
      have c8:Hid (I2 1 S1):=yb (by rw[d8.o];exact ⟨fun h=>by omega,fun _=>⟨_,_,s.o,f.o,A.o⟩,fun h=>by omega⟩)
      go_wp2
      exact ⟨⟨1,rfl,by omega,c8⟩,by simp[intOf]⟩
     ·by_cases da:t=1
      ·obtain ⟨Q,R,S,U,hJ⟩:=cg da
       subst da
       clear cl cg ce ht ch
       have s:=yb S;have f:=yb U;have A:=yb hJ
       clear S U hJ
       go_upto_block 7 with fail
       refine wp_block ?_
       refine Af fun K7 d0=>?_
       go_wp2
       refine d0.o _ _ ?_
       obtain ⟨RW,ax⟩:∃r:LV,r=(.string nm::(An rc++(C++(E++(H++(M++(Q++(c5++(R++c7))))))))):=⟨_,rfl⟩
       have ah:=yb ax
       rw[<-ax] at s
       clear ax
       obtain ⟨w0,w1,w2,w3,w4,w5,w6,w7,_⟩:=f.o
       have ap:=yb w0.len
       have am:=yb w1.len
       have an:=yb w2.len
       have ao:=yb w3.len
       have ag:=yb w4.len
       have ac:=yb w5.len
       have ae:=yb w6.len
       have af:=yb w7.len
       clear w0 w1 w2 w3 w4 w5 w6 w7
       have S:=s.o.drew;have U:=f.o.drew;have hj:=HC.o.stab _ _ wr.drew A.o (fun _ _=>rfl) (yf _)
       clear s f A
       have s:=yb S;have f:=yb U;have A:=yb hj
       clear S U hj
       have a1:Hid (∀k,F k->k < wo.heap.size):=yb (fun k hk=>by have:=ay.o k hk;have:=a8.o;omega)
       refine wp_region_noPanic ?_
       refine BZ (by kernel_rfl) (fun W=>W.heap[wo.heap.size]?=some (.cells RW.toArray 51 (0,0))) 16 ?_
       refine A1 (i:=0) (v:=iV 1) rfl (by kernel_rfl) (by kernel_rfl) (by kernel_rfl) (fun _ _ _ h=>h) (by kernel_rfl) (Or.inl ⟨by rfl,?_⟩) (fun _=>s.o.row) ?_
       ·intro w _;go_simp
       refine A1 (i:=1) (v:=iV 1) rfl (by kernel_rfl) (by kernel_rfl) (by kernel_rfl) (fun _ _ _ h=>h) (by kernel_rfl) (Or.inl ⟨by rfl,?_⟩) (fun _=>s.o.row) ?_
       ·intro w _;go_simp
       refine A1 (i:=2) (v:=iV 1) rfl (by kernel_rfl) (by kernel_rfl) (by kernel_rfl) (fun _ _ _ h=>h) (by kernel_rfl) (Or.inl ⟨by rfl,?_⟩) (fun _=>s.o.row) ?_
       ·intro w _;go_simp
       refine A1 (i:=3) (v:=pV wo.heap.size 27) rfl (by kernel_rfl) (by kernel_rfl) (by kernel_rfl) (fun _ _ _ h=>h) (by kernel_rfl) (Or.inl ⟨by rfl,?_⟩) (fun _=>s.o.row) ?_
       ·intro w _;go_simp
       refine A1 (i:=4) (v:=pV wo.heap.size 33) rfl (by kernel_rfl) (by kernel_rfl) (by kernel_rfl) (fun _ _ _ h=>h) (by kernel_rfl) (Or.inl ⟨by rfl,?_⟩) (fun _=>s.o.row) ?_
       ·intro w _;go_simp
       refine Aj (i:=5) (v:=.agg (c5).toArray) rfl (by kernel_rfl) (by kernel_rfl) (by kernel_rfl) (fun _ _ _ h=>h) (by kernel_rfl) (yS (by rfl) 26 _ rfl (wo.heap.size) 33 (by kernel_rfl) (c5) _ (fun W hW=>BT hW (p:=(.string nm::(An rc++(C++(E++(H++(M++(Q++([]:LV))))))))) (q:=(R++c7)) (by rw[ah.o];simp) (by simp[A8,ap.o,am.o,an.o,ao.o,ag.o,ac.o,ae.o,af.o])) qD rfl (Ci ac.o)) s.o.row ?_
       refine A1 (i:=6) (v:=.func (.func id) #[] caps) rfl (by kernel_rfl) (by kernel_rfl) (by kernel_rfl) (fun _ _ _ h=>h) (by kernel_rfl) (Or.inl ⟨by rfl,?_⟩) (fun _=>s.o.row) ?_
       ·intro w _;go_simp
       refine A1 (i:=8) (v:=iV 1) rfl (by kernel_rfl) (by kernel_rfl) (by kernel_rfl) (fun _ _ _ h=>h) (by kernel_rfl) (Or.inl ⟨by rfl,?_⟩) (fun _=>s.o.row) ?_
       ·intro w _;go_simp
       refine A1 (i:=9) (v:=pV wo.heap.size 39) rfl (by kernel_rfl) (by kernel_rfl) (by kernel_rfl) (fun _ _ _ h=>h) (by kernel_rfl) (Or.inl ⟨by rfl,?_⟩) (fun _=>s.o.row) ?_
       ·intro w _;go_simp
       refine A1 (i:=10) (v:=pV wo.heap.size 45) rfl (by kernel_rfl) (by kernel_rfl) (by kernel_rfl) (fun _ _ _ h=>h) (by kernel_rfl) (Or.inl ⟨by rfl,?_⟩) (fun _=>s.o.row) ?_
       ·intro w _;go_simp
       refine Aj (i:=11) (v:=.agg (c7).toArray) rfl (by kernel_rfl) (by kernel_rfl) (by kernel_rfl) (fun _ _ _ h=>h) (by kernel_rfl) (yS (by rfl) 26 _ rfl (wo.heap.size) 45 (by kernel_rfl) (c7) _ (fun W hW=>BT hW (p:=(.string nm::(An rc++(C++(E++(H++(M++(Q++(c5++(R++([]:LV))))))))))) (q:=([]:LV)) (by rw[ah.o];simp) (by simp[A8,ap.o,am.o,an.o,ao.o,ag.o,ac.o,ae.o,af.o])) qD rfl (Ci af.o)) s.o.row ?_
       refine A1 (i:=12) (v:=.func (.func id) #[] caps) rfl (by kernel_rfl) (by kernel_rfl) (by kernel_rfl) (fun _ _ _ h=>h) (by kernel_rfl) (Or.inl ⟨by rfl,?_⟩) (fun _=>s.o.row) ?_
       ·intro w _;go_simp
       refine A1 (i:=14) (v:=pV wo.heap.size 27) rfl (by kernel_rfl) (by kernel_rfl) (by kernel_rfl) (fun _ _ _ h=>h) (by kernel_rfl) (Or.inl ⟨by rfl,?_⟩) (fun _=>s.o.row) ?_
       ·intro w _;go_simp
       refine A1 (i:=17) (v:=pV wo.heap.size 39) rfl (by kernel_rfl) (by kernel_rfl) (by kernel_rfl) (fun _ _ _ h=>h) (by kernel_rfl) (Or.inl ⟨by rfl,?_⟩) (fun _=>s.o.row) ?_
       ·intro w _;go_simp
       refine A0 (i:=7) (by kernel_rfl) rfl (fun K T=>?_)
       go_simp
       have V:=yb (Bn HC.o e5 (FL G ((bl++ob (.slice va vn vc))++[wo.heap.size])) ((((((((bb&&qc)&&Bh q e0)&&Bh q e1)&&Bh q e2)&&Bh q e3)&&Bh q e4)&&Bh q e6)) wr.drew c5 az.o.2.2.2.2.2.1 A.o (by obtain ⟨w0,w1,w2,w3,w4,w5,w6,w7,_⟩:=f.o;exact w5) (fun k hk=>.inl (aa.o k hk)) (fun k hk=>by
        have h1:=s.o.lt;have h2:=a8.o
        rcases hk with hk|hk
        ·have:=HG.o k hk;omega
        ·have:=(ba.o k hk).2;omega))
       refine V.o.mono ?_
       rintro e Z0 ⟨a7,rfl,a0,a6,Z⟩
       have S:=s.o.call a1.o Z
       have U:VE G ((bl++ob (.slice va vn vc))++[wo.heap.size]) Z0 [C,E,H,M,Q,a7,R,c7] [AQ g e0,AQ g e1,AQ g e2,AQ g e3,AQ g e4,AQ g e5,AQ g e6,e7]:=by
        obtain ⟨w0,w1,w2,w3,w4,w5,w6,w7,_⟩:=f.o.bcall Z aa.o
        exact ⟨w0,w1,w2,w3,w4,a0,w6,w7,trivial⟩
       have bi:=yb a0.len
       refine T.o _ _ (fun _=>S.row) ?_
       clear T K s f A V a0 Z
       have s:=yb S;have f:=yb U;have A:=yb a6
       clear S U a6
       refine A0 (i:=13) (by kernel_rfl) rfl (fun K T=>?_)
       go_simp
       have V:=yb (Bn HC.o e7 (FL G ((bl++ob (.slice va vn vc))++[wo.heap.size])) (((((((((bb&&qc)&&Bh q e0)&&Bh q e1)&&Bh q e2)&&Bh q e3)&&Bh q e4)&&Bh q e6)&&Bh q e5)) Z0 c7 az.o.2.2.2.2.2.2.2 A.o (by obtain ⟨w0,w1,w2,w3,w4,w5,w6,w7,_⟩:=f.o;exact w7) (fun k hk=>.inl (aa.o k hk)) (fun k hk=>by
        have h1:=s.o.lt;have h2:=a8.o
        rcases hk with hk|hk
        ·have:=HG.o k hk;omega
        ·have:=(ba.o k hk).2;omega))
       refine V.o.mono ?_
       rintro e Z1 ⟨ad,rfl,a0,a6,Z⟩
       have S:=s.o.call a1.o Z
       have U:VE G ((bl++ob (.slice va vn vc))++[wo.heap.size]) Z1 [C,E,H,M,Q,a7,R,ad] [AQ g e0,AQ g e1,AQ g e2,AQ g e3,AQ g e4,AQ g e5,AQ g e6,AQ g e7]:=by
        obtain ⟨w0,w1,w2,w3,w4,w5,w6,w7,_⟩:=f.o.bcall Z aa.o
        exact ⟨w0,w1,w2,w3,w4,w5,w6,a0,trivial⟩
       have cq:=yb a0.len
       refine T.o _ _ (fun _=>S.row) ?_
       clear T K s f A V a0 Z
       have s:=yb S;have f:=yb U;have A:=yb a6
       clear S U a6
       rw[ah.o] at s
       refine A0 (i:=15) (by kernel_rfl) rfl (fun K T=>?_)
       go_simp
       refine T.o _ _ (fun _=>by rw[ah.o];exact s.o.row) ?_
       clear T K
       refine A0 (i:=16) (by kernel_rfl) rfl (fun K T=>?_)
       rw[yw (by rfl)]
       refine A9 26 _ _ rfl wo.heap.size 33 (by kernel_rfl) a7 (by kernel_rfl) (p:=(.string nm::(An rc++(C++(E++(H++(M++(Q++([]:LV))))))))) (m:=c5) (q:=(R++c7)) (t:=51) (by have h:=s.o.row;simpa using h) (by simp[A8,ap.o,am.o,an.o,ao.o,ag.o,ac.o,ae.o,af.o,bi.o]) (by rw[ac.o,bi.o]) (Ci bi.o) (Ao (by obtain ⟨w0,w1,w2,w3,w4,w5,w6,w7,_⟩:=f.o;exact w5)) ?_
       intro S0 a2
       have O:Au Z1 S0 wo.heap.size (.string nm::(An rc++(C++(E++(H++(M++(Q++(a7++(R++c7))))))))) 51:=by simpa using a2
       refine T.o _ _ (by intro h;cases h) ?_
       have S:=s.o.wrote O;have U:=f.o.wrt O (by simp);have hj:=HC.o.stab _ _ _ A.o (fun k hk=>O.block k (by have:=a1.o k hk;omega)) (by rw[O.size];exact yf _)
       clear T K s f A a2 O
       have s:=yb S;have f:=yb U;have A:=yb hj
       clear S U hj
       refine A0 (i:=18) (by kernel_rfl) rfl (fun K T=>?_)
       go_simp
       refine T.o _ _ (by intro h;cases h) ?_
       clear T K
       refine A0 (i:=19) (by kernel_rfl) rfl (fun K T=>?_)
       rw[yw (by rfl)]
       refine A9 26 _ _ rfl wo.heap.size 45 (by kernel_rfl) ad (by kernel_rfl) (p:=(.string nm::(An rc++(C++(E++(H++(M++(Q++(a7++(R++([]:LV))))))))))) (m:=c7) (q:=([]:LV)) (t:=51) (by have h:=s.o.row;simpa using h) (by simp[A8,ap.o,am.o,an.o,ao.o,ag.o,ac.o,ae.o,af.o,bi.o]) (by rw[af.o,cq.o]) (Ci cq.o) (Ao (by obtain ⟨w0,w1,w2,w3,w4,w5,w6,w7,_⟩:=f.o;exact w7)) ?_
       intro S1 a2
       have O:Au S0 S1 wo.heap.size (.string nm::(An rc++(C++(E++(H++(M++(Q++(a7++(R++ad))))))))) 51:=by simpa using a2
       refine T.o _ _ (by intro h;cases h) ?_
       have S:=s.o.wrote O;have U:=f.o.wrt O (by simp);have hj:=HC.o.stab _ _ _ A.o (fun k hk=>O.block k (by have:=a1.o k hk;omega)) (by rw[O.size];exact yf _)
       clear T K s f A a2 O
       have s:=yb S;have f:=yb U;have A:=yb hj
       clear S U hj
       refine AF (by kernel_rfl) ?_
       refine NoPanic.normal ?_
       have c8:Hid (I2 2 S1):=yb (by rw[d8.o];exact ⟨fun h=>by omega,fun h=>by omega,fun _=>⟨_,_,_,_,s.o,f.o,A.o⟩⟩)
       go_wp2
       exact ⟨⟨2,rfl,by omega,c8⟩,by simp[intOf]⟩
      ·obtain rfl:t=2:=by omega
       obtain ⟨Q,R,a7,ad,S,U,hJ⟩:=ce rfl
       have s:=yb S;have f:=yb U;have A:=yb hJ
       clear cl cg ce ht ch da S U hJ
       go_wp2
       refine fd.o _ _ ?_
       obtain ⟨bj,dc⟩:∃r:LV,r=(.string nm::(An rc++(C++(E++(H++(M++(Q++(a7++(R++ad))))))))):=⟨_,rfl⟩
       rw[<-dc] at s
       have d9:Hid (CT (GF (FL G (bl++ob (.slice va vn vc))) wr) wr bj (Cj g i ⟨nm,dn,e0,e1,e2,e3,e4,e5,e6,e7⟩)):=yb (by
        rw[dc]
        obtain ⟨x0,x1,x2,x3,x4,x5,x6,x7,_⟩:=f.o.up (l':=bl++ob (.slice va vn vc)) (BM.refl _ _) (fun k hk=>.inl (yi.2 (.inl hk)))
        exact ⟨f7.o,by rw[show (Cj g i (⟨nm,dn,e0,e1,e2,e3,e4,e5,e6,e7⟩:At)).frm=rc by rw[cd.o];rfl];exact ev.o,_,_,_,_,_,_,_,_,by rw[cd.o];rfl,x0,x1,x2,x3,x4,x5,x6,x7⟩)
       clear dc f
       have cf:=yb (Kk d9.o).1;have eq:=yb (Kk d9.o).2
       have dg:Hid (MS F w cs (P++(.slice va vn vc:: j8)) wr):=yb (HM.o.ms.up ay.o a8.o s.o.bx)
       have fj:wr.cell? (aV (w.heap.size+2) 21)=some (.slice va vn vc):=dg.o.cellx rfl ea.o
       have dw:Hid (BM (FL G (bl++ob (.slice va vn vc))) wo wr):=yb (s.o.bx.flux (yf _) (fun k hk=>.inl (aa.o k hk)))
       have ed:=HM.o.grow.up (l':=bl) Ct dw.o (fun k hk=>s.o.bx.block k (HM.o.grow.lt k hk).2 (fun h=>by have:=ay.o k h;have:=(HM.o.grow.lt k hk).1;have:=ar.o;omega)) (fun _ h=>.inl h)
       obtain ⟨rows,c9,ef,bw⟩:=ed.own
       have f8:=yb c9;have eu:=yb ef;have dx:=yb bw
       have bo:Hid (Bs<=wr.heap.size):=yb (yl dj.o s.o.bx.size)
       have dm:Hid ((wr.alloc (.cells bj.toArray 51)).ownsRow Bs 51 51 (.slice va vn vc) rows.length rows.flatten):=yb (BH c9 fun k hk=>((yg _ _).alloc (yf _) _).block k (FB c9 k hk).2)
       have dk:Hid (rows.length+1<=1000000):=yb (by rw[Az.length bw,fa.o];exact en.o)
       have ey:Hid (Bs<=(wr.alloc (.cells bj.toArray 51)).heap.size):=yb (by have:=bo.o;simp;omega)
       clear c9 ef bw ed
       go_upto_region 28 with (first
        |(with_reducible refine ym rfl 51 _ rfl wo.heap.size 0 (by kernel_rfl) bj _ (Aw s.o.row) qS (by kernel_rfl) (AU (n:=51) (by kernel_rfl) cf.o) ?_)
        |(with_reducible refine Cc rfl 29 51 _ rfl bj (by kernel_rfl) 51 qG (by kernel_rfl) cf.o (by omega) (by omega) ?_)
        |(at_builtin;refine BA qG rfl _ _ rfl 51 (by kernel_rfl) (by omega) Bs (.slice va vn vc) rows.length rows.flatten (by kernel_rfl) dm.o wr.heap.size 1 bj (by kernel_rfl) (World.alloc_heap_new _ _) cf.o eq.o dk.o ey.o ?_;intro vx x8 bu ec eb;obtain ⟨xa,xn,xc,rfl⟩:=CY bu;have b9:=yb (D5 Ct dx.o eu.o f8.o d9.o cf.o bu ec eb bo.o);have cp:=yb (dg.o.up ay.o ar.o (.of b9.o.below));clear bu ec eb)
        |(with_reducible refine Al rfl 29 _ _ rfl (w.heap.size+2) 21 (by kernel_rfl) (.slice xa xn xc) (by kernel_rfl) (by kernel_rfl) (p:=P) (m:=.slice va vn vc) (q:= j8) (t:=35) cp.o.x ea.o (by kernel_rfl) (by kernel_rfl) ?_;intro x9 dl;have be:=yb dl;clear dl))
       go_wp2
       have c8:Hid (I (i+1) x9):=yb (by
        rw[HI.o]
        refine ⟨.slice xa xn xc,cp.o.wrote be.o,?_,?_,?_,?_⟩
        ·rw[show (b&&(x.reaches.zipIdx.take (i+1)).all (fun p=>F4 q p.2 p.1))=(((((((((bb&&qc)&&Bh q e0)&&Bh q e1)&&Bh q e2)&&Bh q e3)&&Bh q e4)&&Bh q e6)&&Bh q e5)&&Bh q e7) by rw[cc.o];simp only[F4,zc];rw[cr.o]]
         exact HC.o.stab _ _ _ A.o (fun k hk=>(be.o.block k (by have:=ay.o k hk;omega)).trans (b9.o.below.block k (by have:=ay.o k hk;have:=ar.o;omega))) (by rw[be.o.size];exact b9.o.flux.1)
        ·exact ((HM.o.got.flux dw.o (fun _ h=>.inl h) (fun x hx hm=>s.o.bx.block x (by have:=(bn.o x hm).2;have:=dj.o;omega) (fun h=>by have:=ay.o x h;omega))).flux b9.o.flux (JC b9.o.obs) (fun x _ hm=>b9.o.below.block x (bn.o x hm).2)).flux (be.o.flux (.inr (by simp[d2.o]))) (fun _ h=>.inl h) (fun x hx _=>be.o.block x (by omega))
        ·have h:=b9.o.grow.up (l':=bl) Ct (be.o.flux (.inr (by simp[d2.o]))) (fun k hk=>be.o.block k (by have:=(b9.o.grow.lt k hk).1;have:=ar.o;omega)) (fun _ h=>.inl h)
         rw[<-cw.o] at h
         exact h
        ·exact yl bo.o (by rw[be.o.size];exact b9.o.flux.1))
       exact ⟨⟨i+1,by push_cast;rfl,by omega,c8⟩,by simp[intOf];omega⟩)
   clear dz
   have fk:X1.cell? (aV wr.heap.size 0)=some (.string nm):=CL (s.o.part (p:=([]:LV)) (m:=[.string nm]) (q:=(An dn++(c0++(c1++(c2++(c3++(c4++(c5++(c6++c7))))))))) (by simp) (by simp))
   by_cases bm:i=0
   ·have er:decide ((i:Int)>0)=false:=by simp;omega
    have f9:decide ((0:Int) < (i:Int))=false:=by simp;omega
    have eo:decide (0 < i)=false:=by simp;omega
    have dr:=yb bm
    clear bm
    go_wp2
    refine JM (id:=id) (caps:=caps) (w:=w) (u:=u) (v:=.slice (some (aV bq oq)) n c) (n:=n) (i:=i) (B:=wr.heap.size) (P:=fun l=>K2 ⟨l,[]⟩ X1) ?_ (by kernel_rfl)
    exact bt.o _ _ (by rw[show rc=dn by rw[cd.o];first|exact yw rfl|exact yw dr.o|exact yw trivial|simp];exact s.o) f.o (by rw[show qc=true by rw[cr.o];first|exact yw rfl|exact yw dr.o|exact yw trivial|simp,yX];exact A.o)
   ·have er:decide ((i:Int)>0)=true:=by simp;omega
    have f9:decide ((0:Int) < (i:Int))=true:=by simp;omega
    have eo:decide (0 < i)=true:=by simp;omega
    have ff:=yb (f.o.1).len
    have em:=yb (HC.o.call (bb) X1 2 wr.heap.size 1 (.string nm::([]:LV)) dn (c0++(c1++(c2++(c3++(c4++(c5++(c6++c7))))))) 51 A.o (by have h:=s.o.row;simpa[yp] using h) (by simp[A8]) f4.o d6.o (by decide) (by decide))
    go_wp2
    rw[HC.o.enter,zW]
    refine em.o.mono ?_
    rintro e X9 ⟨rfl,hj,hx⟩
    have d1:WX F X1 X9 wr.heap.size (.string nm::(An (g 2 dn)++(c0++(c1++(c2++(c3++(c4++(c5++(c6++c7))))))))) 51:=by simpa[yp] using hx
    have S:=s.o.cb d1;have U:=f.o.cb d1 aa.o (by simp)
    have et:=yb S;have f3:=yb U;have el:=yb hj
    clear S U hj d1 hx
    go_wp2
    refine JM (id:=id) (caps:=caps) (w:=w) (u:=u) (v:=.slice (some (aV bq oq)) n c) (n:=n) (i:=i) (B:=wr.heap.size) (P:=fun l=>K2 ⟨l,[]⟩ X9) ?_ (by kernel_rfl)
    exact bt.o _ _ (by rw[show rc=g 2 dn by rw[cd.o];first|exact yu bm|exact yu (fun h=>h)|simp[bm]];exact et.o) f3.o (by rw[show qc=q 2 dn by rw[cr.o];first|exact yu bm|exact yu (fun h=>h)|simp[bm]];exact el.o)
  ·obtain rfl:i=n:=by omega
   have f5:decide ((i:Int) < (i:Int))=false:=by simp
   have HQ:Hid (J (b&&x.reaches.zipIdx.all (fun p=>F4 q p.2 p.1)) wr):=yb (by have h:=HM.o.j;simp only[bz.o,Uh] at h;exact h)
   have e9:DV CT 51 51 Bs G bl wr (.slice va vn vc) (x.reaches.zipIdx.map (fun p=>Cj g p.2 p.1)):=by have h:=HM.o.grow;simp only[bz.o,Uh] at h;exact h
   obtain ⟨hd,eh,di,ca⟩:=e9.XQ (by have:=db.o;simp;omega)
   rw[eh] at HM
   have ej:=yb HM.o.bs
   have f1:Hid (Bp 3 (w.heap.size+3) (bl++ob hd.v) (GF (FL G (bl++ob hd.v)) wr) wr c0 c1 c2 h0 h1 hd ⟨none,0,0⟩ ⟨none,0,0⟩ ⟨none,0,0⟩ ⟨none,0,0⟩ (⟨y.name,y.season,y.cap,y.start,y.lets,y.crops,(x.reaches.zipIdx.map (fun p=>Cj g p.2 p.1)),y.farms,y.rots,y.rights,y.duties⟩:Am)):=yb (by
    have h:=HM.o.got
    have hz:=h.set (j:=2) (d:=ob hd.v) (fun x hx=>(bn.o x hx).2) ar.o (fun x hx=>(ca x hx).1) (fun x hx=>(ca x hx).2) (by
     intro i hi fg
     obtain rfl|rfl|rfl|rfl:i=3∨i=4∨i=5∨i=6:=by omega
     all_goals rfl)
    exact ⟨h.name,h.e0,h.e1,h.e2,fun hk=>h.lets (by omega),fun hk=>h.crops (by omega),fun _=>di,fun hk=>absurd hk (by omega),fun hk=>absurd hk (by omega),fun hk=>absurd hk (by omega),fun hk=>absurd hk (by omega),hz.1,fun d hd x hx=>(hz.2 d hd x hx).1,fun d hd x hx=>(hz.2 d hd x hx).2⟩)
   have f6:=yb HM.o.ms
   have f2:Hid (Jj (bl++ob hd.v) wr.heap.size w wr):=yb ⟨yl ar.o ej.o,yf _,fun x hx=>by
    rcases yi.1 hx with hx|hx
    ·have:=bn.o x hx;have:=ej.o;omega
    ·have h1:=(ca x hx).1;have h2:=(HM.o.grow.lt x hx).2;have:=ar.o;omega,yi.2 (.inl f0.o),yi.2 (.inl ep.o),yi.2 (.inl d2.o)⟩
   clear e9 eh di HM ca
   go_wp2
   refine T.o _ _ ?_
   refine Gu (P:=fun l=>Code.wp Try.prog _ _ ⟨l,[]⟩ wr) rfl ?_
   refine Wp (bl:=bl++ob hd.v) (Bs:=wr.heap.size) (y:=(⟨y.name,y.season,y.cap,y.start,y.lets,y.crops,(x.reaches.zipIdx.map (fun p=>Cj g p.2 p.1)),y.farms,y.rots,y.rights,y.duties⟩:Am)) f2.o HC.o HV.o dy.o aa.o HG.o ?_ (by have h:=f6.o;rw[ez.o] at h;simpa[yp] using h) f1.o HQ.o
   exact ⟨rfl,rfl,rfl,rfl⟩
end Go.Proofs.Ytghepahgkcigpaa
