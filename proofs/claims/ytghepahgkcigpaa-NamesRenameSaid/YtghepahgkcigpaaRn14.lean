/- The law's mapped: its loop over rights (printed by gen_df.py). -/
import Derived.Test.YtghepahgkcigpaaRn0
import Derived.Test.YtghepahgkcigpaaRn12
import Derived.Deep.CutBlock
set_option maxHeartbeats 64000000
set_option maxRecDepth 100000
set_option linter.unusedSimpArgs false
namespace Go.Proofs.Ytghepahgkcigpaa
open Go.RowKit
set_option linter.unusedSimpArgs false
def IW(id:Nat)(caps:Array Value)(w:World)(u z:Nat->Value)(v:Value)(n i B:Nat):Array Value:=#[u 0,.func (.func id) #[] caps,.pointer (some ⟨w.heap.size,0,none⟩),u 3,.pointer (some ⟨w.heap.size+1,0,none⟩),.pointer (some ⟨w.heap.size+2,0,none⟩),u 6,u 7,u 8,u 9,u 10,u 11,u 12,u 13,u 14,u 15,u 16,u 17,u 18,u 19,u 20,.pointer (some ⟨B,0,none⟩),u 22,u 23,u 24,u 25,u 26,u 27,u 28,u 29,u 30,u 31,u 32,u 33,u 34,u 35,u 36,u 37,u 38,u 39,u 40,u 41,u 42,u 43,u 44,u 45,u 46,u 47,u 48,u 49,u 50,u 51,u 52,u 53,u 54,u 55,u 56,u 57,u 58,u 59,u 60,u 61,u 62,u 63,u 64,u 65,u 66,u 67,u 68,u 69,u 70,u 71,u 72,u 73,u 74,u 75,u 76,u 77,u 78,u 79,u 80,u 81,u 82,u 83,u 84,u 85,u 86,u 87,u 88,u 89,u 90,u 91,u 92,u 93,u 94,u 95,u 96,u 97,u 98,u 99,u 100,u 101,u 102,u 103,u 104,u 105,u 106,u 107,u 108,u 109,u 110,u 111,u 112,u 113,u 114,u 115,u 116,u 117,u 118,u 119,u 120,u 121,u 122,u 123,u 124,u 125,u 126,u 127,u 128,u 129,u 130,u 131,u 132,u 133,u 134,u 135,u 136,u 137,u 138,u 139,u 140,u 141,u 142,u 143,u 144,u 145,u 146,u 147,u 148,u 149,u 150,u 151,u 152,u 153,u 154,u 155,u 156,u 157,u 158,u 159,u 160,u 161,u 162,u 163,u 164,u 165,u 166,u 167,u 168,u 169,u 170,u 171,u 172,u 173,u 174,u 175,u 176,u 177,u 178,u 179,u 180,u 181,u 182,u 183,u 184,u 185,u 186,u 187,u 188,u 189,u 190,u 191,u 192,u 193,u 194,u 195,u 196,u 197,u 198,u 199,u 200,u 201,u 202,u 203,u 204,u 205,u 206,u 207,u 208,u 209,u 210,u 211,u 212,u 213,u 214,u 215,u 216,u 217,u 218,u 219,u 220,u 221,u 222,u 223,u 224,u 225,u 226,u 227,u 228,.pointer (some ⟨w.heap.size,24,none⟩),v,.int .i64 n,.int .i64 i,z 233,z 234,z 235,z 236,z 237,z 238,z 239,z 240,z 241,z 242,z 243,z 244,z 245,z 246,z 247,z 248,z 249,z 250,z 251,z 252,z 253,z 254,z 255,z 256,z 257,z 258,z 259,z 260,z 261,z 262,z 263,z 264,z 265,z 266,z 267,z 268,z 269,z 270,z 271,z 272,z 273,z 274,z 275,z 276,u 277,u 278,u 279,u 280,u 281,u 282,u 283,u 284,u 285,u 286,u 287,u 288,u 289,u 290,u 291,u 292,u 293,u 294,u 295,u 296,u 297,u 298,u 299,u 300,u 301,u 302]
theorem JK{id:Nat}{caps:Array Value}{w:World}{u:Nat->Value}{v:Value}{n i B:Nat}{P:Array Value->Prop}{l:Array Value}(h:P (IW id caps w u (fun k=>l.getD k undef) v n i B))(e:IW id caps w u (fun k=>l.getD k undef) v n i B=l):P l:=e▸h
theorem Vr{bl:List Nat}{Bs:Nat}{id:Nat}{caps:Array Value}{F G:NP}{J:Bool->World->Prop}{g:Int->Rf->Rf}{q:Int->Rf->Bool}{b:Bool}{w W:World}{cs:LV}{u:Nat->Value}{x y:Am}{L:Bw}{c0 c1 c2:LV}{h0 h1 h2 h3 h4:Ai}(ar:Jj bl Bs w W)(hc:KK id caps F g q J)(hv:Bb (GF G w) w L cs x)(bw:Rz x)(ce:∀k,F k->G k)(hG:∀k,G k->k < w.heap.size)(hu:UF id caps w u)
 (hS:MS F w cs (.string y.name::(c0++(c1++(c2++[h0.v,h1.v,h2.v,h3.v,h4.v,.slice none 0 0,.slice none 0 0])))) W)(hY:Bp 5 (w.heap.size+3) bl (GF (FL G bl) W) W c0 c1 c2 h0 h1 h2 h3 h4 ⟨none,0,0⟩ ⟨none,0,0⟩ y)(hJ:J b W):
  Code.wp Try.prog (CJ 9 (Try.f17.body.getD .skip)) (bodyPost Try.prog Try.f17 (US F G J ((b&&x.rights.all (E5 q))&&x.duties.all (Fo q)) (⟨y.name,y.season,y.cap,y.start,y.lets,y.crops,y.reaches,y.farms,y.rots,(x.rights.map (Ck g)),(x.duties.map (Dz g))⟩:Am) w)) {tmps:=Kl u,defers:=[]} W:=by
 have cx:∀k,F k->k < w.heap.size:=fun k hk=>hG k (ce k hk)
 obtain ⟨⟨a,n,c⟩,hL⟩:∃h:Ai,L.rights=h:=⟨_,rfl⟩
 obtain ⟨s0,s1,s2,cz,g0,g1,g2⟩:=hv.cells
 have c8:W.cell? (aV w.heap.size 24)=some (.slice a n c):=by
  refine hS.cell (p:=.string x.name::(s0++(s1++(s2++[L.lets.v,L.crops.v,L.reaches.v,L.farms.v,L.rots.v])))) (q:=[L.duties.v]) ?_ (by simp[g0.len,g1.len,g2.len])
  rw[cz,hL]
  simp[yp,Ai.v]
 have c9:Av (GF G w) w 37 (CU (GF G w) w) ⟨a,n,c⟩ x.rights:=hL▸hv.rights
 have e8:=yb c9.2.2
 have b8:Hid (n=x.rights.length):=yb c9.1
 have c6:Hid (x.rights.length<=100000):=yb bw.slim.rights
 have HN:Hid (n<=140737488355328):=yb (by have:=b8.o;have:=c6.o;omega)
 obtain ⟨P,hP⟩:∃P:LV,P=.string y.name::(c0++(c1++(c2++[h0.v,h1.v,h2.v,h3.v,h4.v]))):=⟨_,rfl⟩
 have d8:Hid (P.length=24):=yb (by rw[hP];simp[hY.e0.len,hY.e1.len,hY.e2.len])
 have cp:MS F w cs (P++(.slice none 0 0::[.slice none 0 0])) W:=by rw[hP];simpa[yp] using hS
 obtain ⟨I,hI⟩:∃I:Nat->World->Prop,I=fun i W=>∃v,RC bl Bs CU 68 37 F G J b w cs P [.slice none 0 0] (fun N W=>Bp 5 (w.heap.size+3) bl N W c0 c1 c2 h0 h1 h2 h3 h4 ⟨none,0,0⟩ ⟨none,0,0⟩ y) (fun i=>(x.rights.take i).all (E5 q)) (fun i=>(x.rights.take i).map (Ck g)) i v W:=⟨_,rfl⟩
 have d6:Hid (I 0 W):=yb (by
  rw[hI]
  exact ⟨_,cp,by simpa using hJ,by simpa[ob,Value.ownBlock] using hY,by simpa using EA,ar.le⟩)
 have ac:=yb ar.lo;have b3:=yb ar.mem;have di:=yb ar.b0;have e6:=yb ar.b1;have bv:=yb ar.b2
 have HI:=yb hI;have HV:=yb hv;have HC:=yb hc;have cq:=yb bw;have a1:=yb ce;have HG:=yb hG;have aj:=yb cx;have dh:=yb hP;have HU:=yb hu;have ef:=yb hY.name
 rw[Gt,hu.u1,hu.u2,hu.u4,hu.u5]
 clear ar hv bw hc ce hG cx hS hY hJ hP hL cz g0 g1 g2 c9 cp hI hu
 refine Af fun K H=>?_
 go_wp2
 go_loopw [232] (fun iv wr=>∃i:Nat,iv=iV i∧i<=n∧Hid (I i wr)) (fun iv _=>n - (intOf iv).toNat)
 case atStart=>exact ⟨0,rfl,yC _,d6⟩
 case round=>
  clear d6 c8
  obtain ⟨i,rfl,hi,da⟩:=hrel
  obtain ⟨v,hM⟩:∃v,RC bl Bs CU 68 37 F G J b w cs P [.slice none 0 0] (fun N W=>Bp 5 (w.heap.size+3) bl N W c0 c1 c2 h0 h1 h2 h3 h4 ⟨none,0,0⟩ ⟨none,0,0⟩ y) (fun i=>(x.rights.take i).all (E5 q)) (fun i=>(x.rights.take i).map (Ck g)) i v wr:=by have h:=da.o;rw[HI.o] at h;exact h
  obtain ⟨va,vn,vc,rfl⟩:=hM.grow.slice
  have HM:=yb hM
  clear da hM
  have ed:n<=140737488355328:=HN.o
  by_cases dl:i < n
  ·have ba:i < x.rights.length:=by rw[<-b8.o];exact dl
   have dx:(i:Int) < (n:Int):=by omega
   obtain ⟨bq,oq,ct,he,bi,d3,be,cc⟩:=e8.o i ba
   obtain rfl:a=some (aV bq oq):=he
   have bh:Hid ((b&&(x.rights.take (i+1)).all (E5 q))=((b&&(x.rights.take i).all (E5 q))&&E5 q x.rights[i])):=yb (by
    rw[yt ba,zj,zf,zA,yX,<-zc])
   have cd:Hid ((x.rights.take (i+1)).map (Ck g)=(x.rights.take i).map (Ck g)++[Ck g x.rights[i]]):=yb (by rw[yt ba,zb];rfl)
   have du:Hid (i+1<=1000000):=yb (by have:=b8.o;have:=c6.o;omega)
   have ap:=yb (cq.o.rights _ (yz ba))
   have eb:Hid (((x.rights.take i).map (Ck g)).length=i):=yb (by simp;omega)
   generalize hD:x.rights[i]=D at cc bh cd ap
   clear hD
   generalize d2:(b&&(x.rights.take i).all (E5 q))=bb at bh
   have HJ:Hid (J bb wr):=yb (by rw[<-d2];exact HM.o.j)
   clear d2
   have cf:=yb (IT cc).2
   have an:=yb d3
   obtain ⟨dk,nm,df,dr,rk,e0,e1,e2,e3,e4⟩:=D
   obtain ⟨cg,c7,hdr,c0,c1,c2,c3,c4,rfl,x0,x1,x2,x3,x4⟩:=cc
   simp only at be an cf bh cd ap cg c7 hdr x0 x1 x2 x3 x4
   obtain ⟨ct,ay⟩:∃ct:LV,ct=(iV dk::(.string nm::(An df++(An dr++(iV rk::(c0++(c1++(c2++(c3++c4))))))))):=⟨_,rfl⟩
   rw[<-ay] at be an cf
   have dw:=yb ay
   have dz:=yb cg
   have db:=yb c7
   have bz:=yb hdr
   have d0:Hid (wr.rangeAt bq (oq+i*37) ct):=yb (A2 be (HM.o.ms.bx.block bq bi.2 (fun k=>bi.1 (a1.o _ k))))
   have ei:Hid (bq < wr.heap.size):=yb (yr bi.2 HM.o.ms.bx.size)
   have dd:Hid (Az (fun c e=>AS (GF G w) w e c) [c0,c1,c2,c3,c4] [e0,e1,e2,e3,e4]):=yb ⟨x0,x1,x2,x3,x4,trivial⟩
   have aw:Hid (∀k∈((bl++ob (.slice va vn vc))++[wr.heap.size]),w.heap.size<=k∧k<=wr.heap.size):=yb (by
    have h1:=HM.o.ms.lt
    intro k hk
    rcases yi.1 hk with hk|hk
    ·rcases yi.1 hk with hk|hk
     ·have:=b3.o k hk;have:=HM.o.bs;omega
     ·have:=HM.o.grow.lt k hk;have:=ac.o;omega
    ·simp at hk;omega)
   have a8:=yb HM.o.ms.lt;have cu:=yb HM.o.bs
   have cw:Hid (¬ F wr.heap.size):=yb (fun h=>by have:=aj.o _ h;have:=a8.o;omega)
   clear ay be bi d3 cg c7 hdr x0 x1 x2 x3 x4
   go_upto_block 15 with fail
   refine wp_block ?_
   refine Af fun K1 b9=>?_
   go_wp2_with (first
    |(with_reducible refine ym rfl 68 _ rfl bq (oq+i*37) (by kernel_rfl) ct _ d0.o qZ (by kernel_rfl) (AU (n:=37) (by kernel_rfl) an.o) ?_)
    |(with_reducible refine Ae rfl 68 _ _ rfl wr.heap.size (by kernel_rfl) ct (by kernel_rfl) (World.alloc_heap_new _ _) (by rw[yD,an.o];kernel_rfl) (AU (n:=37) (by kernel_rfl) an.o) cf.o ?_;intro X1 d7;have bo:=yb d7;clear d7))
   refine b9.o _ _ ?_
   clear b9
   have A:Hid (TB F wr 68 (iV dk::(.string nm::(An df++(An dr++(iV rk::(c0++(c1++(c2++(c3++c4))))))))) X1):=yb (by rw[<-dw.o];exact Fp bo.o)
   have s:Hid (J bb X1):=yb (HC.o.stab _ _ _ HJ.o (fun k hk=>(AA bo.o).block k (by have:=aj.o k hk;have:=a8.o;omega)) (AA bo.o).size)
   have f:Hid (VE G ((bl++ob (.slice va vn vc))++[wr.heap.size]) X1 [c0,c1,c2,c3,c4] [e0,e1,e2,e3,e4]):=yb (Az.mono (fun _ _ h=>h.flux ((HM.o.ms.bx.trans (A.o.bx.mono HM.o.ms.bx.size)).flux (yf _) a1.o) (fun k hk=>hk.imp (fun h=>h) (fun h=>(aw.o k h).1))) dd.o)
   clear bo d0 dd
   have bj:=yb (HC.o.call (bb) X1 3 wr.heap.size 2 (iV dk::(.string nm::([]:LV))) df (An dr++(iV rk::(c0++(c1++(c2++(c3++c4)))))) 68 s.o (by have h:=A.o.row;simpa[yp] using h) (by simp) cw.o db.o (by decide) (by decide))
   refine Af fun K1 b9=>?_
   go_wp2
   rw[HC.o.enter,zW]
   refine bj.o.mono ?_
   rintro e X2 ⟨rfl,hj,hx⟩
   have ao:WX F X1 X2 wr.heap.size (iV dk::(.string nm::(An (g 3 df)++(An dr++(iV rk::(c0++(c1++(c2++(c3++c4))))))))) 68:=by simpa[yp] using hx
   have M:=A.o.cb ao;have R:=f.o.cb ao a1.o (by simp)
   clear A s f bj hx
   have A:=yb M;have f:=yb R;have s:=yb hj
   clear M R hj ao
   go_wp2
   refine b9.o _ _ ?_
   clear b9
   obtain ⟨rc,ch⟩:∃r:Rf,r=if dk=1 then dr else g 2 dr:=⟨_,rfl⟩
   obtain ⟨qc,cr⟩:∃r:Bool,r=if dk=1 then true else q 2 dr:=⟨_,rfl⟩
   have bn:=yb ch;have bt:=yb cr
   have e7:Hid (rc.name.size<=maxLen):=yb (by rw[ch];split;exact bz.o;exact HC.o.name _ _ bz.o)
   clear ch cr
   refine Af fun K2 cy=>?_
   have az:Hid (∀(z:Nat->Value) (Y:World),TB F wr 68 (iV dk::(.string nm::(An (g 3 df)++(An rc++(iV rk::(c0++(c1++(c2++(c3++c4))))))))) Y->VE G ((bl++ob (.slice va vn vc))++[wr.heap.size]) Y [c0,c1,c2,c3,c4] [e0,e1,e2,e3,e4]->J ((bb&&q 3 df)&&qc) Y->K2 ⟨IW id caps w u z (.slice (some (aV bq oq)) n c) n i wr.heap.size,[]⟩ Y):=yb (by
    intro z Y M R hj
    clear A s f
    have A:=yb M;have f:=yb R;have s:=yb hj
    clear M R hj
    unfold IW
    refine cy.o _ _ ?_
    refine Af fun K3 dv=>?_
    obtain ⟨RW,c5⟩:∃r:LV,r=(iV dk::(.string nm::(An (g 3 df)++(An rc++(iV rk::(c0++(c1++(c2++(c3++c4))))))))):=⟨_,rfl⟩
    have aq:=yb c5
    rw[<-c5] at A
    clear c5
    obtain ⟨w0,w1,w2,w3,w4,_⟩:=f.o
    have X:=yb w0.len
    have U:=yb w1.len
    have V:=yb w2.len
    have Z:=yb w3.len
    have a0:=yb w4.len
    clear w0 w1 w2 w3 w4
    have M:=A.o.drew;have R:=f.o.drew;have hj:=HC.o.stab _ _ Y.drew s.o (fun _ _=>rfl) (yf _)
    clear A f s
    have A:=yb M;have f:=yb R;have s:=yb hj
    clear M R hj
    have a2:Hid (∀k,F k->k < wr.heap.size):=yb (fun k hk=>by have:=aj.o k hk;have:=a8.o;omega)
    refine wp_region_noPanic ?_
    refine BZ (by kernel_rfl) (fun W=>W.heap[wr.heap.size]?=some (.cells RW.toArray 68 (0,0))) 21 ?_
    refine A1 (i:=0) (v:=pV wr.heap.size 7) rfl (by kernel_rfl) (by kernel_rfl) (by kernel_rfl) (fun _ _ _ h=>h) (by kernel_rfl) (Or.inl ⟨by rfl,?_⟩) (fun _=>A.o.row) ?_
    ·intro w _;go_simp
    refine Aj (i:=1) (v:=.agg (c0).toArray) rfl (by kernel_rfl) (by kernel_rfl) (by kernel_rfl) (fun _ _ _ h=>h) (by kernel_rfl) (yS (by rfl) 26 _ rfl (wr.heap.size) 7 (by kernel_rfl) (c0) _ (fun W hW=>BT hW (p:=(iV dk::(.string nm::(An (g 3 df)++(An rc++(iV rk::([]:LV))))))) (q:=(c1++(c2++(c3++c4)))) (by rw[aq.o];simp) (by simp[A8,X.o,U.o,V.o,Z.o,a0.o])) qD rfl (Ci X.o)) A.o.row ?_
    refine A1 (i:=2) (v:=.func (.func id) #[] caps) rfl (by kernel_rfl) (by kernel_rfl) (by kernel_rfl) (fun _ _ _ h=>h) (by kernel_rfl) (Or.inl ⟨by rfl,?_⟩) (fun _=>A.o.row) ?_
    ·intro w _;go_simp
    refine A1 (i:=4) (v:=pV wr.heap.size 13) rfl (by kernel_rfl) (by kernel_rfl) (by kernel_rfl) (fun _ _ _ h=>h) (by kernel_rfl) (Or.inl ⟨by rfl,?_⟩) (fun _=>A.o.row) ?_
    ·intro w _;go_simp
    refine Aj (i:=5) (v:=.agg (c1).toArray) rfl (by kernel_rfl) (by kernel_rfl) (by kernel_rfl) (fun _ _ _ h=>h) (by kernel_rfl) (yS (by rfl) 26 _ rfl (wr.heap.size) 13 (by kernel_rfl) (c1) _ (fun W hW=>BT hW (p:=(iV dk::(.string nm::(An (g 3 df)++(An rc++(iV rk::(c0++([]:LV)))))))) (q:=(c2++(c3++c4))) (by rw[aq.o];simp) (by simp[A8,X.o,U.o,V.o,Z.o,a0.o])) qD rfl (Ci U.o)) A.o.row ?_
    refine A1 (i:=6) (v:=.func (.func id) #[] caps) rfl (by kernel_rfl) (by kernel_rfl) (by kernel_rfl) (fun _ _ _ h=>h) (by kernel_rfl) (Or.inl ⟨by rfl,?_⟩) (fun _=>A.o.row) ?_
    ·intro w _;go_simp
    refine A1 (i:=8) (v:=pV wr.heap.size 19) rfl (by kernel_rfl) (by kernel_rfl) (by kernel_rfl) (fun _ _ _ h=>h) (by kernel_rfl) (Or.inl ⟨by rfl,?_⟩) (fun _=>A.o.row) ?_
    ·intro w _;go_simp
    refine Aj (i:=9) (v:=.agg (c2).toArray) rfl (by kernel_rfl) (by kernel_rfl) (by kernel_rfl) (fun _ _ _ h=>h) (by kernel_rfl) (yS (by rfl) 26 _ rfl (wr.heap.size) 19 (by kernel_rfl) (c2) _ (fun W hW=>BT hW (p:=(iV dk::(.string nm::(An (g 3 df)++(An rc++(iV rk::(c0++(c1++([]:LV))))))))) (q:=(c3++c4)) (by rw[aq.o];simp) (by simp[A8,X.o,U.o,V.o,Z.o,a0.o])) qD rfl (Ci V.o)) A.o.row ?_
    refine A1 (i:=10) (v:=.func (.func id) #[] caps) rfl (by kernel_rfl) (by kernel_rfl) (by kernel_rfl) (fun _ _ _ h=>h) (by kernel_rfl) (Or.inl ⟨by rfl,?_⟩) (fun _=>A.o.row) ?_
    ·intro w _;go_simp
    refine A1 (i:=12) (v:=pV wr.heap.size 25) rfl (by kernel_rfl) (by kernel_rfl) (by kernel_rfl) (fun _ _ _ h=>h) (by kernel_rfl) (Or.inl ⟨by rfl,?_⟩) (fun _=>A.o.row) ?_
    ·intro w _;go_simp
    refine Aj (i:=13) (v:=.agg (c3).toArray) rfl (by kernel_rfl) (by kernel_rfl) (by kernel_rfl) (fun _ _ _ h=>h) (by kernel_rfl) (yS (by rfl) 26 _ rfl (wr.heap.size) 25 (by kernel_rfl) (c3) _ (fun W hW=>BT hW (p:=(iV dk::(.string nm::(An (g 3 df)++(An rc++(iV rk::(c0++(c1++(c2++([]:LV)))))))))) (q:=c4) (by rw[aq.o];simp) (by simp[A8,X.o,U.o,V.o,Z.o,a0.o])) qD rfl (Ci Z.o)) A.o.row ?_
    refine A1 (i:=14) (v:=.func (.func id) #[] caps) rfl (by kernel_rfl) (by kernel_rfl) (by kernel_rfl) (fun _ _ _ h=>h) (by kernel_rfl) (Or.inl ⟨by rfl,?_⟩) (fun _=>A.o.row) ?_
    ·intro w _;go_simp
    refine A1 (i:=16) (v:=pV wr.heap.size 31) rfl (by kernel_rfl) (by kernel_rfl) (by kernel_rfl) (fun _ _ _ h=>h) (by kernel_rfl) (Or.inl ⟨by rfl,?_⟩) (fun _=>A.o.row) ?_
    ·intro w _;go_simp
    refine Aj (i:=17) (v:=.agg (c4).toArray) rfl (by kernel_rfl) (by kernel_rfl) (by kernel_rfl) (fun _ _ _ h=>h) (by kernel_rfl) (yS (by rfl) 26 _ rfl (wr.heap.size) 31 (by kernel_rfl) (c4) _ (fun W hW=>BT hW (p:=(iV dk::(.string nm::(An (g 3 df)++(An rc++(iV rk::(c0++(c1++(c2++(c3++([]:LV))))))))))) (q:=([]:LV)) (by rw[aq.o];simp) (by simp[A8,X.o,U.o,V.o,Z.o,a0.o])) qD rfl (Ci a0.o)) A.o.row ?_
    refine A1 (i:=18) (v:=.func (.func id) #[] caps) rfl (by kernel_rfl) (by kernel_rfl) (by kernel_rfl) (fun _ _ _ h=>h) (by kernel_rfl) (Or.inl ⟨by rfl,?_⟩) (fun _=>A.o.row) ?_
    ·intro w _;go_simp
    refine A0 (i:=3) (by kernel_rfl) rfl (fun K H=>?_)
    go_simp
    have O:=yb (Bn HC.o e0 (FL G ((bl++ob (.slice va vn vc))++[wr.heap.size])) (((bb&&q 3 df)&&qc)) Y.drew c0 ap.o.1 s.o (by obtain ⟨w0,w1,w2,w3,w4,_⟩:=f.o;exact w0) (fun k hk=>.inl (a1.o k hk)) (fun k hk=>by
     have h1:=A.o.lt;have h2:=a8.o
     rcases hk with hk|hk
     ·have:=HG.o k hk;omega
     ·have:=(aw.o k hk).2;omega))
    refine O.o.mono ?_
    rintro e Z0 ⟨E,rfl,S,aa,T⟩
    have M:=A.o.call a2.o T
    have R:VE G ((bl++ob (.slice va vn vc))++[wr.heap.size]) Z0 [E,c1,c2,c3,c4] [AQ g e0,e1,e2,e3,e4]:=by
     obtain ⟨w0,w1,w2,w3,w4,_⟩:=f.o.bcall T a1.o
     exact ⟨S,w1,w2,w3,w4,trivial⟩
    have ad:=yb S.len
    refine H.o _ _ (fun _=>M.row) ?_
    clear H K A f s O S T
    have A:=yb M;have f:=yb R;have s:=yb aa
    clear M R aa
    refine A0 (i:=7) (by kernel_rfl) rfl (fun K H=>?_)
    go_simp
    have O:=yb (Bn HC.o e1 (FL G ((bl++ob (.slice va vn vc))++[wr.heap.size])) ((((bb&&q 3 df)&&qc)&&Bh q e0)) Z0 c1 ap.o.2.1 s.o (by obtain ⟨w0,w1,w2,w3,w4,_⟩:=f.o;exact w1) (fun k hk=>.inl (a1.o k hk)) (fun k hk=>by
     have h1:=A.o.lt;have h2:=a8.o
     rcases hk with hk|hk
     ·have:=HG.o k hk;omega
     ·have:=(aw.o k hk).2;omega))
    refine O.o.mono ?_
    rintro e Z1 ⟨Q,rfl,S,aa,T⟩
    have M:=A.o.call a2.o T
    have R:VE G ((bl++ob (.slice va vn vc))++[wr.heap.size]) Z1 [E,Q,c2,c3,c4] [AQ g e0,AQ g e1,e2,e3,e4]:=by
     obtain ⟨w0,w1,w2,w3,w4,_⟩:=f.o.bcall T a1.o
     exact ⟨w0,S,w2,w3,w4,trivial⟩
    have af:=yb S.len
    refine H.o _ _ (fun _=>M.row) ?_
    clear H K A f s O S T
    have A:=yb M;have f:=yb R;have s:=yb aa
    clear M R aa
    refine A0 (i:=11) (by kernel_rfl) rfl (fun K H=>?_)
    go_simp
    have O:=yb (Bn HC.o e2 (FL G ((bl++ob (.slice va vn vc))++[wr.heap.size])) (((((bb&&q 3 df)&&qc)&&Bh q e0)&&Bh q e1)) Z1 c2 ap.o.2.2.1 s.o (by obtain ⟨w0,w1,w2,w3,w4,_⟩:=f.o;exact w2) (fun k hk=>.inl (a1.o k hk)) (fun k hk=>by
     have h1:=A.o.lt;have h2:=a8.o
     rcases hk with hk|hk
     ·have:=HG.o k hk;omega
     ·have:=(aw.o k hk).2;omega))
    refine O.o.mono ?_
    rintro e Z2 ⟨a6,rfl,S,aa,T⟩
    have M:=A.o.call a2.o T
    have R:VE G ((bl++ob (.slice va vn vc))++[wr.heap.size]) Z2 [E,Q,a6,c3,c4] [AQ g e0,AQ g e1,AQ g e2,e3,e4]:=by
     obtain ⟨w0,w1,w2,w3,w4,_⟩:=f.o.bcall T a1.o
     exact ⟨w0,w1,S,w3,w4,trivial⟩
    have ai:=yb S.len
    refine H.o _ _ (fun _=>M.row) ?_
    clear H K A f s O S T
    have A:=yb M;have f:=yb R;have s:=yb aa
    clear M R aa
    refine A0 (i:=15) (by kernel_rfl) rfl (fun K H=>?_)
    go_simp
    have O:=yb (Bn HC.o e3 (FL G ((bl++ob (.slice va vn vc))++[wr.heap.size])) ((((((bb&&q 3 df)&&qc)&&Bh q e0)&&Bh q e1)&&Bh q e2)) Z2 c3 ap.o.2.2.2.1 s.o (by obtain ⟨w0,w1,w2,w3,w4,_⟩:=f.o;exact w3) (fun k hk=>.inl (a1.o k hk)) (fun k hk=>by
     have h1:=A.o.lt;have h2:=a8.o
     rcases hk with hk|hk
     ·have:=HG.o k hk;omega
     ·have:=(aw.o k hk).2;omega))
    refine O.o.mono ?_
    rintro e Z3 ⟨ae,rfl,S,aa,T⟩
    have M:=A.o.call a2.o T
    have R:VE G ((bl++ob (.slice va vn vc))++[wr.heap.size]) Z3 [E,Q,a6,ae,c4] [AQ g e0,AQ g e1,AQ g e2,AQ g e3,e4]:=by
     obtain ⟨w0,w1,w2,w3,w4,_⟩:=f.o.bcall T a1.o
     exact ⟨w0,w1,w2,S,w4,trivial⟩
    have ah:=yb S.len
    refine H.o _ _ (fun _=>M.row) ?_
    clear H K A f s O S T
    have A:=yb M;have f:=yb R;have s:=yb aa
    clear M R aa
    refine A0 (i:=19) (by kernel_rfl) rfl (fun K H=>?_)
    go_simp
    have O:=yb (Bn HC.o e4 (FL G ((bl++ob (.slice va vn vc))++[wr.heap.size])) (((((((bb&&q 3 df)&&qc)&&Bh q e0)&&Bh q e1)&&Bh q e2)&&Bh q e3)) Z3 c4 ap.o.2.2.2.2 s.o (by obtain ⟨w0,w1,w2,w3,w4,_⟩:=f.o;exact w4) (fun k hk=>.inl (a1.o k hk)) (fun k hk=>by
     have h1:=A.o.lt;have h2:=a8.o
     rcases hk with hk|hk
     ·have:=HG.o k hk;omega
     ·have:=(aw.o k hk).2;omega))
    refine O.o.mono ?_
    rintro e Z4 ⟨au,rfl,S,aa,T⟩
    have M:=A.o.call a2.o T
    have R:VE G ((bl++ob (.slice va vn vc))++[wr.heap.size]) Z4 [E,Q,a6,ae,au] [AQ g e0,AQ g e1,AQ g e2,AQ g e3,AQ g e4]:=by
     obtain ⟨w0,w1,w2,w3,w4,_⟩:=f.o.bcall T a1.o
     exact ⟨w0,w1,w2,w3,S,trivial⟩
    have ag:=yb S.len
    refine H.o _ _ (fun _=>M.row) ?_
    clear H K A f s O S T
    have A:=yb M;have f:=yb R;have s:=yb aa
    clear M R aa
    rw[aq.o] at A
    refine A0 (i:=20) (by kernel_rfl) rfl (fun K H=>?_)
    go_simp
    refine H.o _ _ (fun _=>by rw[aq.o];exact A.o.row) ?_
    clear H K
    refine A0 (i:=21) (by kernel_rfl) rfl (fun K H=>?_)
    rw[yw (by rfl)]
    refine A9 26 _ _ rfl wr.heap.size 7 (by kernel_rfl) E (by kernel_rfl) (p:=(iV dk::(.string nm::(An (g 3 df)++(An rc++(iV rk::([]:LV))))))) (m:=c0) (q:=(c1++(c2++(c3++c4)))) (t:=68) (by have h:=A.o.row;simpa using h) (by simp[A8,X.o,U.o,V.o,Z.o,a0.o,ad.o,af.o,ai.o,ah.o,ag.o]) (by rw[X.o,ad.o]) (Ci ad.o) (Ao (by obtain ⟨w0,w1,w2,w3,w4,_⟩:=f.o;exact w0)) ?_
    intro S0 a7
    have C:Au Z4 S0 wr.heap.size (iV dk::(.string nm::(An (g 3 df)++(An rc++(iV rk::(E++(c1++(c2++(c3++c4))))))))) 68:=by simpa using a7
    refine H.o _ _ (by intro h;cases h) ?_
    have M:=A.o.wrote C;have R:=f.o.wrt C (by simp);have hj:=HC.o.stab _ _ _ s.o (fun k hk=>C.block k (by have:=a2.o k hk;omega)) (by rw[C.size];exact yf _)
    clear H K A f s a7 C
    have A:=yb M;have f:=yb R;have s:=yb hj
    clear M R hj
    refine A0 (i:=22) (by kernel_rfl) rfl (fun K H=>?_)
    go_simp
    refine H.o _ _ (by intro h;cases h) ?_
    clear H K
    refine A0 (i:=23) (by kernel_rfl) rfl (fun K H=>?_)
    rw[yw (by rfl)]
    refine A9 26 _ _ rfl wr.heap.size 13 (by kernel_rfl) Q (by kernel_rfl) (p:=(iV dk::(.string nm::(An (g 3 df)++(An rc++(iV rk::(E++([]:LV)))))))) (m:=c1) (q:=(c2++(c3++c4))) (t:=68) (by have h:=A.o.row;simpa using h) (by simp[A8,X.o,U.o,V.o,Z.o,a0.o,ad.o,af.o,ai.o,ah.o,ag.o]) (by rw[U.o,af.o]) (Ci af.o) (Ao (by obtain ⟨w0,w1,w2,w3,w4,_⟩:=f.o;exact w1)) ?_
    intro S1 a7
    have C:Au S0 S1 wr.heap.size (iV dk::(.string nm::(An (g 3 df)++(An rc++(iV rk::(E++(Q++(c2++(c3++c4))))))))) 68:=by simpa using a7
    refine H.o _ _ (by intro h;cases h) ?_
    have M:=A.o.wrote C;have R:=f.o.wrt C (by simp);have hj:=HC.o.stab _ _ _ s.o (fun k hk=>C.block k (by have:=a2.o k hk;omega)) (by rw[C.size];exact yf _)
    clear H K A f s a7 C
    have A:=yb M;have f:=yb R;have s:=yb hj
    clear M R hj
    refine A0 (i:=24) (by kernel_rfl) rfl (fun K H=>?_)
    go_simp
    refine H.o _ _ (by intro h;cases h) ?_
    clear H K
    refine A0 (i:=25) (by kernel_rfl) rfl (fun K H=>?_)
    rw[yw (by rfl)]
    refine A9 26 _ _ rfl wr.heap.size 19 (by kernel_rfl) a6 (by kernel_rfl) (p:=(iV dk::(.string nm::(An (g 3 df)++(An rc++(iV rk::(E++(Q++([]:LV))))))))) (m:=c2) (q:=(c3++c4)) (t:=68) (by have h:=A.o.row;simpa using h) (by simp[A8,X.o,U.o,V.o,Z.o,a0.o,ad.o,af.o,ai.o,ah.o,ag.o]) (by rw[V.o,ai.o]) (Ci ai.o) (Ao (by obtain ⟨w0,w1,w2,w3,w4,_⟩:=f.o;exact w2)) ?_
    intro S2 a7
    have C:Au S1 S2 wr.heap.size (iV dk::(.string nm::(An (g 3 df)++(An rc++(iV rk::(E++(Q++(a6++(c3++c4))))))))) 68:=by simpa using a7
    refine H.o _ _ (by intro h;cases h) ?_
    have M:=A.o.wrote C;have R:=f.o.wrt C (by simp);have hj:=HC.o.stab _ _ _ s.o (fun k hk=>C.block k (by have:=a2.o k hk;omega)) (by rw[C.size];exact yf _)
    clear H K A f s a7 C
    have A:=yb M;have f:=yb R;have s:=yb hj
    clear M R hj
    refine A0 (i:=26) (by kernel_rfl) rfl (fun K H=>?_)
    go_simp
    refine H.o _ _ (by intro h;cases h) ?_
    clear H K
    refine A0 (i:=27) (by kernel_rfl) rfl (fun K H=>?_)
    rw[yw (by rfl)]
    refine A9 26 _ _ rfl wr.heap.size 25 (by kernel_rfl) ae (by kernel_rfl) (p:=(iV dk::(.string nm::(An (g 3 df)++(An rc++(iV rk::(E++(Q++(a6++([]:LV)))))))))) (m:=c3) (q:=c4) (t:=68) (by have h:=A.o.row;simpa using h) (by simp[A8,X.o,U.o,V.o,Z.o,a0.o,ad.o,af.o,ai.o,ah.o,ag.o]) (by rw[Z.o,ah.o]) (Ci ah.o) (Ao (by obtain ⟨w0,w1,w2,w3,w4,_⟩:=f.o;exact w3)) ?_
    intro S3 a7
    have C:Au S2 S3 wr.heap.size (iV dk::(.string nm::(An (g 3 df)++(An rc++(iV rk::(E++(Q++(a6++(ae++c4))))))))) 68:=by simpa using a7
    refine H.o _ _ (by intro h;cases h) ?_
    have M:=A.o.wrote C;have R:=f.o.wrt C (by simp);have hj:=HC.o.stab _ _ _ s.o (fun k hk=>C.block k (by have:=a2.o k hk;omega)) (by rw[C.size];exact yf _)
    clear H K A f s a7 C
    have A:=yb M;have f:=yb R;have s:=yb hj
    clear M R hj
    refine A0 (i:=28) (by kernel_rfl) rfl (fun K H=>?_)
    go_simp
    refine H.o _ _ (by intro h;cases h) ?_
    clear H K
    refine A0 (i:=29) (by kernel_rfl) rfl (fun K H=>?_)
    rw[yw (by rfl)]
    refine A9 26 _ _ rfl wr.heap.size 31 (by kernel_rfl) au (by kernel_rfl) (p:=(iV dk::(.string nm::(An (g 3 df)++(An rc++(iV rk::(E++(Q++(a6++(ae++([]:LV))))))))))) (m:=c4) (q:=([]:LV)) (t:=68) (by have h:=A.o.row;simpa using h) (by simp[A8,X.o,U.o,V.o,Z.o,a0.o,ad.o,af.o,ai.o,ah.o,ag.o]) (by rw[a0.o,ag.o]) (Ci ag.o) (Ao (by obtain ⟨w0,w1,w2,w3,w4,_⟩:=f.o;exact w4)) ?_
    intro S4 a7
    have C:Au S3 S4 wr.heap.size (iV dk::(.string nm::(An (g 3 df)++(An rc++(iV rk::(E++(Q++(a6++(ae++au))))))))) 68:=by simpa using a7
    refine H.o _ _ (by intro h;cases h) ?_
    have M:=A.o.wrote C;have R:=f.o.wrt C (by simp);have hj:=HC.o.stab _ _ _ s.o (fun k hk=>C.block k (by have:=a2.o k hk;omega)) (by rw[C.size];exact yf _)
    clear H K A f s a7 C
    have A:=yb M;have f:=yb R;have s:=yb hj
    clear M R hj
    refine AF (by kernel_rfl) ?_
    refine NoPanic.normal ?_
    refine dv.o _ _ ?_
    obtain ⟨av,ca⟩:∃r:LV,r=(iV dk::(.string nm::(An (g 3 df)++(An rc++(iV rk::(E++(Q++(a6++(ae++au))))))))):=⟨_,rfl⟩
    rw[<-ca] at A
    have bu:Hid (CU (GF (FL G (bl++ob (.slice va vn vc))) S4) S4 av (Ck g ⟨dk,nm,df,dr,rk,e0,e1,e2,e3,e4⟩)):=yb (by
     rw[ca]
     obtain ⟨x0,x1,x2,x3,x4,_⟩:=f.o.up (l':=bl++ob (.slice va vn vc)) (BM.refl _ _) (fun k hk=>.inl (yi.2 (.inl hk)))
     exact ⟨dz.o,HC.o.name _ _ db.o,by rw[show (Ck g (⟨dk,nm,df,dr,rk,e0,e1,e2,e3,e4⟩:AG)).reach=rc by rw[bn.o];rfl];exact e7.o,_,_,_,_,_,by rw[bn.o];rfl,x0,x1,x2,x3,x4⟩)
    clear ca f
    have bm:=yb (IT bu.o).1;have ec:=yb (IT bu.o).2
    have d4:Hid (MS F w cs (P++(.slice va vn vc::[.slice none 0 0])) S4):=yb (HM.o.ms.up aj.o a8.o A.o.bx)
    have ek:S4.cell? (aV (w.heap.size+2) 24)=some (.slice va vn vc):=d4.o.cellx rfl d8.o
    have cl:Hid (BM (FL G (bl++ob (.slice va vn vc))) wr S4):=yb (A.o.bx.flux (yf _) (fun k hk=>.inl (a1.o k hk)))
    have ck:=HM.o.grow.up (l':=bl) Cu cl.o (fun k hk=>A.o.bx.block k (HM.o.grow.lt k hk).2 (fun h=>by have:=aj.o k h;have:=(HM.o.grow.lt k hk).1;have:=ac.o;omega)) (fun _ h=>.inl h)
    obtain ⟨rows,bd,cv,ax⟩:=ck.own
    have e9:=yb bd;have e5:=yb cv;have co:=yb ax
    have b5:Hid (Bs<=S4.heap.size):=yb (yl cu.o A.o.bx.size)
    have cn:Hid ((S4.alloc (.cells av.toArray 68)).ownsRow Bs 68 37 (.slice va vn vc) rows.length rows.flatten):=yb (BH bd fun k hk=>((yg _ _).alloc (yf _) _).block k (FB bd k hk).2)
    have cj:Hid (rows.length+1<=1000000):=yb (by rw[Az.length ax,eb.o];exact du.o)
    have dg:Hid (Bs<=(S4.alloc (.cells av.toArray 68)).heap.size):=yb (by have:=b5.o;simp;omega)
    clear bd cv ax ck
    go_upto_region 62 with (first
     |(with_reducible refine ym rfl 68 _ rfl wr.heap.size 0 (by kernel_rfl) av _ (Aw A.o.row) qZ (by kernel_rfl) (AU (n:=37) (by kernel_rfl) bm.o) ?_)
     |(with_reducible refine Cc rfl 32 68 _ rfl av (by kernel_rfl) 37 qK (by kernel_rfl) bm.o (by omega) (by omega) ?_)
     |(at_builtin;refine BA qK rfl _ _ rfl 37 (by kernel_rfl) (by omega) Bs (.slice va vn vc) rows.length rows.flatten (by kernel_rfl) cn.o S4.heap.size 1 av (by kernel_rfl) (World.alloc_heap_new _ _) bm.o ec.o cj.o dg.o ?_;intro vx x8 b4 ci dc;obtain ⟨xa,xn,xc,rfl⟩:=CY b4;have ak:=yb (D5 Cu co.o e5.o e9.o bu.o bm.o b4 ci dc b5.o);have bp:=yb (d4.o.up aj.o ac.o (.of ak.o.below));clear b4 ci dc)
     |(with_reducible refine Al rfl 32 _ _ rfl (w.heap.size+2) 24 (by kernel_rfl) (.slice xa xn xc) (by kernel_rfl) (by kernel_rfl) (p:=P) (m:=.slice va vn vc) (q:=[.slice none 0 0]) (t:=35) bp.o.x d8.o (by kernel_rfl) (by kernel_rfl) ?_;intro x9 cm;have al:=yb cm;clear cm))
    go_wp2
    have ea:Hid (I (i+1) x9):=yb (by
     rw[HI.o]
     refine ⟨.slice xa xn xc,bp.o.wrote al.o,?_,?_,?_,?_⟩
     ·rw[show (b&&(x.rights.take (i+1)).all (E5 q))=(((((((bb&&q 3 df)&&qc)&&Bh q e0)&&Bh q e1)&&Bh q e2)&&Bh q e3)&&Bh q e4) by rw[bh.o];simp only[E5,zc];rw[bt.o]]
      exact HC.o.stab _ _ _ s.o (fun k hk=>(al.o.block k (by have:=aj.o k hk;omega)).trans (ak.o.below.block k (by have:=aj.o k hk;have:=ac.o;omega))) (by rw[al.o.size];exact ak.o.flux.1)
     ·exact ((HM.o.got.flux cl.o (fun _ h=>.inl h) (fun x hx hm=>A.o.bx.block x (by have:=(b3.o x hm).2;have:=cu.o;omega) (fun h=>by have:=aj.o x h;omega))).flux ak.o.flux (JC ak.o.obs) (fun x _ hm=>ak.o.below.block x (b3.o x hm).2)).flux (al.o.flux (.inr (by simp[bv.o]))) (fun _ h=>.inl h) (fun x hx _=>al.o.block x (by omega))
     ·have h:=ak.o.grow.up (l':=bl) Cu (al.o.flux (.inr (by simp[bv.o]))) (fun k hk=>al.o.block k (by have:=(ak.o.grow.lt k hk).1;have:=ac.o;omega)) (fun _ h=>.inl h)
      rw[<-cd.o] at h
      exact h
     ·exact yl b5.o (by rw[al.o.size];exact ak.o.flux.1))
    exact ⟨⟨i+1,by push_cast;rfl,by omega,ea⟩,by simp[intOf];omega⟩)
   clear cy
   have ej:X2.cell? (aV wr.heap.size 0)=some (iV dk):=CL (A.o.part (p:=([]:LV)) (m:=[iV dk]) (q:=(.string nm::(An (g 3 df)++(An dr++(iV rk::(c0++(c1++(c2++(c3++c4))))))))) (by simp) (by simp))
   by_cases am:dk=1
   ·subst am
    go_wp2
    refine JK (id:=id) (caps:=caps) (w:=w) (u:=u) (v:=.slice (some (aV bq oq)) n c) (n:=n) (i:=i) (B:=wr.heap.size) (P:=fun l=>K2 ⟨l,[]⟩ X2) ?_ (by kernel_rfl)
    exact az.o _ _ (by rw[show rc=dr by rw[bn.o];first|exact yw rfl|exact yw am|exact yw trivial|simp];exact A.o) f.o (by rw[show qc=true by rw[bt.o];first|exact yw rfl|exact yw am|exact yw trivial|simp,yX];exact s.o)
   ·have eg:(dk==1)=false:=by simpa using am
    have ee:=yb (f.o.1).len
    have bj:=yb (HC.o.call ((bb&&q 3 df)) X2 2 wr.heap.size 4 (iV dk::(.string nm::(An (g 3 df)++([]:LV)))) dr (iV rk::(c0++(c1++(c2++(c3++c4))))) 68 s.o (by have h:=A.o.row;simpa[yp] using h) (by simp[A8]) cw.o bz.o (by decide) (by decide))
    go_wp2
    rw[HC.o.enter,zW]
    refine bj.o.mono ?_
    rintro e X9 ⟨rfl,hj,hx⟩
    have ao:WX F X2 X9 wr.heap.size (iV dk::(.string nm::(An (g 3 df)++(An (g 2 dr)++(iV rk::(c0++(c1++(c2++(c3++c4))))))))) 68:=by simpa[yp] using hx
    have M:=A.o.cb ao;have R:=f.o.cb ao a1.o (by simp)
    have dt:=yb M;have dq:=yb R;have dn:=yb hj
    clear M R hj ao hx
    go_wp2
    refine JK (id:=id) (caps:=caps) (w:=w) (u:=u) (v:=.slice (some (aV bq oq)) n c) (n:=n) (i:=i) (B:=wr.heap.size) (P:=fun l=>K2 ⟨l,[]⟩ X9) ?_ (by kernel_rfl)
    exact az.o _ _ (by rw[show rc=g 2 dr by rw[bn.o];first|exact yu am|exact yu (fun h=>h)|simp[am]];exact dt.o) dq.o (by rw[show qc=q 2 dr by rw[bt.o];first|exact yu am|exact yu (fun h=>h)|simp[am]];exact dn.o)
  ·obtain rfl:i=n:=by omega
   have dx:decide ((i:Int) < (i:Int))=false:=by simp
   have HQ:Hid (J (b&&x.rights.all (E5 q)) wr):=yb (by have h:=HM.o.j;simp only[b8.o,yx] at h;exact h)
   have d1:DV CU 68 37 Bs G bl wr (.slice va vn vc) (x.rights.map (Ck g)):=by have h:=HM.o.grow;simp only[b8.o,yx] at h;exact h
   obtain ⟨hd,d5,d9,bg⟩:=d1.XQ (by have:=c6.o;simp;omega)
   rw[d5] at HM
   have de:=yb HM.o.bs
   have dj:Hid (Bp 6 (w.heap.size+3) (bl++ob hd.v) (GF (FL G (bl++ob hd.v)) wr) wr c0 c1 c2 h0 h1 h2 h3 h4 hd ⟨none,0,0⟩ (⟨y.name,y.season,y.cap,y.start,y.lets,y.crops,y.reaches,y.farms,y.rots,(x.rights.map (Ck g)),y.duties⟩:Am)):=yb (by
    have h:=HM.o.got
    have hz:=h.set (j:=5) (d:=ob hd.v) (fun x hx=>(b3.o x hx).2) ac.o (fun x hx=>(bg x hx).1) (fun x hx=>(bg x hx).2) (by
     intro i hi eh
     obtain rfl:i=6:=by omega
     all_goals rfl)
    exact ⟨h.name,h.e0,h.e1,h.e2,fun hk=>h.lets (by omega),fun hk=>h.crops (by omega),fun hk=>h.reaches (by omega),fun hk=>h.farms (by omega),fun hk=>h.rots (by omega),fun _=>d9,fun hk=>absurd hk (by omega),hz.1,fun d hd x hx=>(hz.2 d hd x hx).1,fun d hd x hx=>(hz.2 d hd x hx).2⟩)
   have dy:=yb HM.o.ms
   have dm:Hid (Jj (bl++ob hd.v) wr.heap.size w wr):=yb ⟨yl ac.o de.o,yf _,fun x hx=>by
    rcases yi.1 hx with hx|hx
    ·have:=b3.o x hx;have:=de.o;omega
    ·have h1:=(bg x hx).1;have h2:=(HM.o.grow.lt x hx).2;have:=ac.o;omega,yi.2 (.inl di.o),yi.2 (.inl e6.o),yi.2 (.inl bv.o)⟩
   clear d1 d5 d9 HM bg
   go_wp2
   refine H.o _ _ ?_
   refine Gu (P:=fun l=>Code.wp Try.prog _ _ ⟨l,[]⟩ wr) rfl ?_
   refine Wo (bl:=bl++ob hd.v) (Bs:=wr.heap.size) (y:=(⟨y.name,y.season,y.cap,y.start,y.lets,y.crops,y.reaches,y.farms,y.rots,(x.rights.map (Ck g)),y.duties⟩:Am)) dm.o HC.o HV.o cq.o a1.o HG.o ?_ (by have h:=dy.o;rw[dh.o] at h;simpa[yp] using h) dj.o HQ.o
   exact ⟨rfl,rfl,rfl,rfl⟩
end Go.Proofs.Ytghepahgkcigpaa
