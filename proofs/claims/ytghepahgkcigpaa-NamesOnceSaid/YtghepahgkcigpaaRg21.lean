/- The law's mapped: its loop over rights (printed by gen_af.py). -/
import Derived.Test.YtghepahgkcigpaaRg0
import Derived.Test.YtghepahgkcigpaaRg13
import Derived.Deep.CutBlock
set_option maxHeartbeats 64000000
set_option maxRecDepth 100000
set_option linter.unusedSimpArgs false
namespace Go.Proofs.Ytghepahgkcigpaa
open Go.RowKit
set_option linter.unusedSimpArgs false
def IA(id:Nat)(caps:Array Value)(w:World)(u z:Nat->Value)(v:Value)(n i B:Nat):Array Value:=#[u 0,.func (.func id) #[] caps,.pointer (some ⟨w.heap.size,0,none⟩),u 3,.pointer (some ⟨w.heap.size+1,0,none⟩),.pointer (some ⟨w.heap.size+2,0,none⟩),u 6,u 7,u 8,u 9,u 10,u 11,u 12,u 13,u 14,u 15,u 16,u 17,u 18,u 19,u 20,.pointer (some ⟨B,0,none⟩),u 22,u 23,u 24,u 25,u 26,u 27,u 28,u 29,u 30,u 31,u 32,u 33,u 34,u 35,u 36,u 37,u 38,u 39,u 40,u 41,u 42,u 43,u 44,u 45,u 46,u 47,u 48,u 49,u 50,u 51,u 52,u 53,u 54,u 55,u 56,u 57,u 58,u 59,u 60,u 61,u 62,u 63,u 64,u 65,u 66,u 67,u 68,u 69,u 70,u 71,u 72,u 73,u 74,u 75,u 76,u 77,u 78,u 79,u 80,u 81,u 82,u 83,u 84,u 85,u 86,u 87,u 88,u 89,u 90,u 91,u 92,u 93,u 94,u 95,u 96,u 97,u 98,u 99,u 100,u 101,u 102,u 103,u 104,u 105,u 106,u 107,u 108,u 109,u 110,u 111,u 112,u 113,u 114,u 115,u 116,u 117,u 118,u 119,u 120,u 121,u 122,u 123,u 124,u 125,u 126,u 127,u 128,u 129,u 130,u 131,u 132,u 133,u 134,u 135,u 136,u 137,u 138,u 139,u 140,u 141,u 142,u 143,u 144,u 145,u 146,u 147,u 148,u 149,u 150,u 151,u 152,u 153,u 154,u 155,u 156,u 157,u 158,u 159,u 160,u 161,u 162,u 163,u 164,u 165,u 166,u 167,u 168,u 169,u 170,u 171,u 172,u 173,u 174,u 175,u 176,u 177,u 178,u 179,u 180,u 181,u 182,u 183,u 184,u 185,u 186,u 187,u 188,u 189,u 190,u 191,u 192,u 193,u 194,u 195,u 196,u 197,u 198,u 199,u 200,u 201,u 202,u 203,u 204,u 205,u 206,u 207,u 208,u 209,u 210,u 211,u 212,u 213,u 214,u 215,u 216,u 217,u 218,u 219,u 220,u 221,u 222,u 223,u 224,u 225,u 226,u 227,u 228,.pointer (some ⟨w.heap.size,24,none⟩),v,.int .i64 n,.int .i64 i,z 233,z 234,z 235,z 236,z 237,z 238,z 239,z 240,z 241,z 242,z 243,z 244,z 245,z 246,z 247,z 248,z 249,z 250,z 251,z 252,z 253,z 254,z 255,z 256,z 257,z 258,z 259,z 260,z 261,z 262,z 263,z 264,z 265,z 266,z 267,z 268,z 269,z 270,z 271,z 272,z 273,z 274,z 275,z 276,u 277,u 278,u 279,u 280,u 281,u 282,u 283,u 284,u 285,u 286,u 287,u 288,u 289,u 290,u 291,u 292,u 293,u 294,u 295,u 296,u 297,u 298,u 299,u 300,u 301,u 302]
theorem Jf{id:Nat}{caps:Array Value}{w:World}{u:Nat->Value}{v:Value}{n i B:Nat}{P:Array Value->Prop}{l:Array Value}(h:P (IA id caps w u (fun k=>l.getD k undef) v n i B))(e:IA id caps w u (fun k=>l.getD k undef) v n i B=l):P l:=e▸h
theorem TE{id:Nat}{caps:Array Value}{F G:NP}{J:Bool->World->Prop}{g:Int->Rf->Rf}{q:Int->Rf->Bool}{b:Bool}{w W:World}{cs:LV}{u:Nat->Value}{x y:An}{L:Bh}{c0 c1 c2:LV}{h0 h1 h2 h3 h4:Av}(hc:Jo id caps F g q J)(hv:B8 (GF G w) w L cs x)(bi:Sh x)(bj:∀k,F k->G k)(hG:∀k,G k->k < w.heap.size)(hu:UF id caps w u)
 (hS:MS F w cs (.string y.name::(c0++(c1++(c2++[h0.v,h1.v,h2.v,h3.v,h4.v,.slice none 0 0,.slice none 0 0])))) W)(hY:Dl 5 (GF (FL G [w.heap.size,w.heap.size+1,w.heap.size+2]) W) W c0 c1 c2 h0 h1 h2 h3 h4 ⟨none,0,0⟩ ⟨none,0,0⟩ y)(hJ:J b W):
  Code.wp Try.prog (CP 9 (Try.f17.body.getD .skip)) (bodyPost Try.prog Try.f17 (MP F G J ((b&&x.rights.all (Dn q))&&x.duties.all (ED q)) (⟨y.name,y.season,y.cap,y.start,y.lets,y.crops,y.reaches,y.farms,y.rots,(x.rights.map (Cx g)),(x.duties.map (Du g))⟩:An) w)) {tmps:=J0 u,defers:=[]} W:=by
 have cx:∀k,F k->k < w.heap.size:=fun k f=>hG k (bj k f)
 obtain ⟨⟨a,n,c⟩,hL⟩:∃h:Av,L.rights=h:=⟨_,rfl⟩
 obtain ⟨s0,s1,s2,cj,g0,g1,g2⟩:=hv.cells
 have bz:W.cell? (aV w.heap.size 24)=some (.slice a n c):=by
  refine hS.cell (p:=.string x.name::(s0++(s1++(s2++[L.lets.v,L.crops.v,L.reaches.v,L.farms.v,L.rots.v])))) (q:=[L.duties.v]) ?_ (by simp[g0.len,g1.len,g2.len])
  rw[cj,hL]
  simp[yl,Av.v]
 have bv:Az (GF G w) w 37 (CH (GF G w) w) ⟨a,n,c⟩ x.rights:=hL▸hv.rights
 have dn:=yb bv.2.2
 have av:Hid (n=x.rights.length):=yb bv.1
 have c5:Hid (x.rights.length<=100000):=yb bi.slim.rights
 have HN:Hid (n<=140737488355328):=yb (by have:=av.o;have:=c5.o;omega)
 obtain ⟨P,hP⟩:∃P:LV,P=.string y.name::(c0++(c1++(c2++[h0.v,h1.v,h2.v,h3.v,h4.v]))):=⟨_,rfl⟩
 have cq:Hid (P.length=24):=yb (by rw[hP];simp[hY.e0.len,hY.e1.len,hY.e2.len])
 have cw:MS F w cs (P++(.slice none 0 0::[.slice none 0 0])) W:=by rw[hP];simpa[yl] using hS
 obtain ⟨I,hI⟩:∃I:Nat->World->Prop,I=fun i W=>∃v,MI CH 68 37 F G J b w cs P [.slice none 0 0] (fun N W=>Dl 5 N W c0 c1 c2 h0 h1 h2 h3 h4 ⟨none,0,0⟩ ⟨none,0,0⟩ y) (fun i=>(x.rights.take i).all (Dn q)) (fun i=>(x.rights.take i).map (Cx g)) i v W:=⟨_,rfl⟩
 have cr:Hid (I 0 W):=yb (by
  rw[hI]
  exact ⟨_,cw,by simpa using hJ,by simpa[ob,Value.ownBlock] using hY,by simpa using DQ⟩)
 have HI:=yb hI;have HV:=yb hv;have HC:=yb hc;have cf:=yb bi;have a1:=yb bj;have HG:=yb hG;have ah:=yb cx;have da:=yb hP;have HU:=yb hu;have dz:=yb hY.name
 rw[FB,hu.u1,hu.u2,hu.u4,hu.u5]
 clear hv bi hc bj hG cx hS hY hJ hP hL cj g0 g1 g2 bv cw hI hu
 refine Ag fun K H=>?_
 go_wp2
 go_loopw [232] (fun iv wr=>∃i:Nat,iv=iV i∧i<=n∧Hid (I i wr)) (fun iv _=>n - (intOf iv).toNat)
 case atStart=>exact ⟨0,rfl,yz _,cr⟩
 case round=>
  clear cr bz
  obtain ⟨i,rfl,hi,ck⟩:=hrel
  obtain ⟨v,hM⟩:∃v,MI CH 68 37 F G J b w cs P [.slice none 0 0] (fun N W=>Dl 5 N W c0 c1 c2 h0 h1 h2 h3 h4 ⟨none,0,0⟩ ⟨none,0,0⟩ y) (fun i=>(x.rights.take i).all (Dn q)) (fun i=>(x.rights.take i).map (Cx g)) i v wr:=by have h:=ck.o;rw[HI.o] at h;exact h
  obtain ⟨va,vn,vc,rfl⟩:=hM.grow.slice
  have HM:=yb hM
  clear ck hM
  have du:n<=140737488355328:=HN.o
  by_cases dh:i < n
  ·have b4:i < x.rights.length:=by rw[<-av.o];exact dh
   have dc:(i:Int) < (n:Int):=by omega
   obtain ⟨bq,oq,ct,he,b8,d1,b5,bk⟩:=dn.o i b4
   obtain rfl:a=some (aV bq oq):=he
   have be:Hid ((b&&(x.rights.take (i+1)).all (Dn q))=((b&&(x.rights.take i).all (Dn q))&&Dn q x.rights[i])):=yb (by
    rw[yq b4,zh,ze,zu,yT,<-zc])
   have bn:Hid ((x.rights.take (i+1)).map (Cx g)=(x.rights.take i).map (Cx g)++[Cx g x.rights[i]]):=yb (by rw[yq b4,zb];rfl)
   have dq:Hid (i+1<=1000000):=yb (by have:=av.o;have:=c5.o;omega)
   have am:=yb (cf.o.rights _ (yy b4))
   have d9:Hid (((x.rights.take i).map (Cx g)).length=i):=yb (by simp;omega)
   generalize hD:x.rights[i]=D at bk be bn am
   clear hD
   generalize cu:(b&&(x.rights.take i).all (Dn q))=bb at be
   have HJ:Hid (J bb wr):=yb (by rw[<-cu];exact HM.o.j)
   clear cu
   have c7:=yb (Hl bk).2
   have ai:=yb d1
   obtain ⟨dk,nm,df,dr,rk,e0,e1,e2,e3,e4⟩:=D
   obtain ⟨bw,bp,hdr,c0,c1,c2,c3,c4,rfl,x0,x1,x2,x3,x4⟩:=bk
   simp only at b5 ai c7 be bn am bw bp hdr x0 x1 x2 x3 x4
   obtain ⟨ct,aw⟩:∃ct:LV,ct=(iV dk::(.string nm::(Ah df++(Ah dr++(iV rk::(c0++(c1++(c2++(c3++c4))))))))):=⟨_,rfl⟩
   rw[<-aw] at b5 ai c7
   have d6:=yb aw
   have dd:=yb bw
   have d3:=yb bp
   have c6:=yb hdr
   have cc:Hid (wr.rangeAt bq (oq+i*37) ct):=yb (A2 b5 (HM.o.ms.bx.block bq b8.2 (fun k=>b8.1 (a1.o _ k))))
   have dy:Hid (bq < wr.heap.size):=yb (yp b8.2 HM.o.ms.bx.size)
   have ce:Hid (At (fun c e=>AP (GF G w) w e c) [c0,c1,c2,c3,c4] [e0,e1,e2,e3,e4]):=yb ⟨x0,x1,x2,x3,x4,trivial⟩
   have ap:Hid (∀k∈(([w.heap.size,w.heap.size+1,w.heap.size+2]++ob (.slice va vn vc))++[wr.heap.size]),w.heap.size<=k∧k<=wr.heap.size):=yb (by
    have h1:=HM.o.ms.lt
    intro k f
    rcases yo.1 f with f|f
    ·rcases yo.1 f with f|f
     ·simp at f;omega
     ·have:=HM.o.grow.lt k f;omega
    ·simp at f;omega)
   have a7:=yb HM.o.ms.lt
   have ca:Hid (¬ F wr.heap.size):=yb (fun h=>by have:=ah.o _ h;have:=a7.o;omega)
   clear aw b5 b8 d1 bw bp hdr x0 x1 x2 x3 x4
   go_upto_block 15 with fail
   refine wp_block ?_
   refine Ag fun K1 ay=>?_
   go_wp2_with (first
    |(with_reducible refine yj rfl 68 _ rfl bq (oq+i*37) (by kernel_rfl) ct _ cc.o qN (by kernel_rfl) (BW (n:=37) (by kernel_rfl) ai.o) ?_)
    |(with_reducible refine Aj rfl 68 _ _ rfl wr.heap.size (by kernel_rfl) ct (by kernel_rfl) (World.alloc_heap_new _ _) (by rw[yB,ai.o];kernel_rfl) (BW (n:=37) (by kernel_rfl) ai.o) c7.o ?_;intro X1 cl;have b7:=yb cl;clear cl))
   refine ay.o _ _ ?_
   clear ay
   have A:Hid (TB F wr 68 (iV dk::(.string nm::(Ah df++(Ah dr++(iV rk::(c0++(c1++(c2++(c3++c4))))))))) X1):=yb (by rw[<-d6.o];exact EE b7.o)
   have s:Hid (J bb X1):=yb (HC.o.stab _ _ _ HJ.o (fun k f=>(AB b7.o).block k (by have:=ah.o k f;have:=a7.o;omega)) (AB b7.o).size)
   have d:Hid (VE G (([w.heap.size,w.heap.size+1,w.heap.size+2]++ob (.slice va vn vc))++[wr.heap.size]) X1 [c0,c1,c2,c3,c4] [e0,e1,e2,e3,e4]):=yb (At.mono (fun _ _ h=>h.flux ((HM.o.ms.bx.trans (A.o.bx.mono HM.o.ms.bx.size)).flux (ye _) a1.o) (fun k f=>f.imp (fun h=>h) (fun h=>(ap.o k h).1))) ce.o)
   clear b7 cc ce
   have bd:=yb (HC.o.call (bb) X1 3 wr.heap.size 2 (iV dk::(.string nm::([]:LV))) df (Ah dr++(iV rk::(c0++(c1++(c2++(c3++c4)))))) 68 s.o (by have h:=A.o.row;simpa[yl] using h) (by simp) ca.o d3.o (by decide) (by decide))
   refine Ag fun K1 ay=>?_
   go_wp2
   rw[HC.o.enter,zR]
   refine bd.o.mono ?_
   rintro e X2 ⟨rfl,hj,hx⟩
   have an:WX F X1 X2 wr.heap.size (iV dk::(.string nm::(Ah (g 3 df)++(Ah dr++(iV rk::(c0++(c1++(c2++(c3++c4))))))))) 68:=by simpa[yl] using hx
   have M:=A.o.cb an;have R:=d.o.cb an a1.o (by simp)
   clear A s d bd hx
   have A:=yb M;have d:=yb R;have s:=yb hj
   clear M R hj an
   go_wp2
   refine ay.o _ _ ?_
   clear ay
   obtain ⟨rc,bs⟩:∃r:Rf,r=if dk=1 then dr else g 2 dr:=⟨_,rfl⟩
   obtain ⟨qc,ci⟩:∃r:Bool,r=if dk=1 then true else q 2 dr:=⟨_,rfl⟩
   have b3:=yb bs;have bo:=yb ci
   have d5:Hid (rc.name.size<=maxLen):=yb (by rw[bs];split;exact c6.o;exact HC.o.name _ _ c6.o)
   clear bs ci
   refine Ag fun K2 cz=>?_
   have au:Hid (∀(z:Nat->Value) (Y:World),TB F wr 68 (iV dk::(.string nm::(Ah (g 3 df)++(Ah rc++(iV rk::(c0++(c1++(c2++(c3++c4))))))))) Y->VE G (([w.heap.size,w.heap.size+1,w.heap.size+2]++ob (.slice va vn vc))++[wr.heap.size]) Y [c0,c1,c2,c3,c4] [e0,e1,e2,e3,e4]->J ((bb&&q 3 df)&&qc) Y->K2 ⟨IA id caps w u z (.slice (some (aV bq oq)) n c) n i wr.heap.size,[]⟩ Y):=yb (by
    intro z Y M R hj
    clear A s d
    have A:=yb M;have d:=yb R;have s:=yb hj
    clear M R hj
    unfold IA
    refine cz.o _ _ ?_
    refine Ag fun K3 d8=>?_
    obtain ⟨RW,bt⟩:∃r:LV,r=(iV dk::(.string nm::(Ah (g 3 df)++(Ah rc++(iV rk::(c0++(c1++(c2++(c3++c4))))))))):=⟨_,rfl⟩
    have al:=yb bt
    rw[<-bt] at A
    clear bt
    obtain ⟨w0,w1,w2,w3,w4,_⟩:=d.o
    have a0:=yb w0.len
    have V:=yb w1.len
    have U:=yb w2.len
    have X:=yb w3.len
    have Z:=yb w4.len
    clear w0 w1 w2 w3 w4
    have M:=A.o.drew;have R:=d.o.drew;have hj:=HC.o.stab _ _ Y.drew s.o (fun _ _=>rfl) (ye _)
    clear A d s
    have A:=yb M;have d:=yb R;have s:=yb hj
    clear M R hj
    have a2:Hid (∀k,F k->k < wr.heap.size):=yb (fun k f=>by have:=ah.o k f;have:=a7.o;omega)
    refine wp_region_noPanic ?_
    refine BT (by kernel_rfl) (fun W=>W.heap[wr.heap.size]?=some (.cells RW.toArray 68 (0,0))) 21 ?_
    refine A0 (i:=0) (v:=pV wr.heap.size 7) rfl (by kernel_rfl) (by kernel_rfl) (by kernel_rfl) (fun _ _ _ h=>h) (by kernel_rfl) (Or.inl ⟨by rfl,?_⟩) (fun _=>A.o.row) ?_
    ·intro w _;go_simp
    refine Ae (i:=1) (v:=.agg (c0).toArray) rfl (by kernel_rfl) (by kernel_rfl) (by kernel_rfl) (fun _ _ _ h=>h) (by kernel_rfl) (yK (by rfl) 26 _ rfl (wr.heap.size) 7 (by kernel_rfl) (c0) _ (fun W hW=>BE hW (p:=(iV dk::(.string nm::(Ah (g 3 df)++(Ah rc++(iV rk::([]:LV))))))) (q:=(c1++(c2++(c3++c4)))) (by rw[al.o];simp) (by simp[A7,a0.o,V.o,U.o,X.o,Z.o])) qq rfl (BV a0.o)) A.o.row ?_
    refine A0 (i:=2) (v:=.func (.func id) #[] caps) rfl (by kernel_rfl) (by kernel_rfl) (by kernel_rfl) (fun _ _ _ h=>h) (by kernel_rfl) (Or.inl ⟨by rfl,?_⟩) (fun _=>A.o.row) ?_
    ·intro w _;go_simp
    refine A0 (i:=4) (v:=pV wr.heap.size 13) rfl (by kernel_rfl) (by kernel_rfl) (by kernel_rfl) (fun _ _ _ h=>h) (by kernel_rfl) (Or.inl ⟨by rfl,?_⟩) (fun _=>A.o.row) ?_
    ·intro w _;go_simp
    refine Ae (i:=5) (v:=.agg (c1).toArray) rfl (by kernel_rfl) (by kernel_rfl) (by kernel_rfl) (fun _ _ _ h=>h) (by kernel_rfl) (yK (by rfl) 26 _ rfl (wr.heap.size) 13 (by kernel_rfl) (c1) _ (fun W hW=>BE hW (p:=(iV dk::(.string nm::(Ah (g 3 df)++(Ah rc++(iV rk::(c0++([]:LV)))))))) (q:=(c2++(c3++c4))) (by rw[al.o];simp) (by simp[A7,a0.o,V.o,U.o,X.o,Z.o])) qq rfl (BV V.o)) A.o.row ?_
    refine A0 (i:=6) (v:=.func (.func id) #[] caps) rfl (by kernel_rfl) (by kernel_rfl) (by kernel_rfl) (fun _ _ _ h=>h) (by kernel_rfl) (Or.inl ⟨by rfl,?_⟩) (fun _=>A.o.row) ?_
    ·intro w _;go_simp
    refine A0 (i:=8) (v:=pV wr.heap.size 19) rfl (by kernel_rfl) (by kernel_rfl) (by kernel_rfl) (fun _ _ _ h=>h) (by kernel_rfl) (Or.inl ⟨by rfl,?_⟩) (fun _=>A.o.row) ?_
    ·intro w _;go_simp
    refine Ae (i:=9) (v:=.agg (c2).toArray) rfl (by kernel_rfl) (by kernel_rfl) (by kernel_rfl) (fun _ _ _ h=>h) (by kernel_rfl) (yK (by rfl) 26 _ rfl (wr.heap.size) 19 (by kernel_rfl) (c2) _ (fun W hW=>BE hW (p:=(iV dk::(.string nm::(Ah (g 3 df)++(Ah rc++(iV rk::(c0++(c1++([]:LV))))))))) (q:=(c3++c4)) (by rw[al.o];simp) (by simp[A7,a0.o,V.o,U.o,X.o,Z.o])) qq rfl (BV U.o)) A.o.row ?_
    refine A0 (i:=10) (v:=.func (.func id) #[] caps) rfl (by kernel_rfl) (by kernel_rfl) (by kernel_rfl) (fun _ _ _ h=>h) (by kernel_rfl) (Or.inl ⟨by rfl,?_⟩) (fun _=>A.o.row) ?_
    ·intro w _;go_simp
    refine A0 (i:=12) (v:=pV wr.heap.size 25) rfl (by kernel_rfl) (by kernel_rfl) (by kernel_rfl) (fun _ _ _ h=>h) (by kernel_rfl) (Or.inl ⟨by rfl,?_⟩) (fun _=>A.o.row) ?_
    ·intro w _;go_simp
    refine Ae (i:=13) (v:=.agg (c3).toArray) rfl (by kernel_rfl) (by kernel_rfl) (by kernel_rfl) (fun _ _ _ h=>h) (by kernel_rfl) (yK (by rfl) 26 _ rfl (wr.heap.size) 25 (by kernel_rfl) (c3) _ (fun W hW=>BE hW (p:=(iV dk::(.string nm::(Ah (g 3 df)++(Ah rc++(iV rk::(c0++(c1++(c2++([]:LV)))))))))) (q:=c4) (by rw[al.o];simp) (by simp[A7,a0.o,V.o,U.o,X.o,Z.o])) qq rfl (BV X.o)) A.o.row ?_
    refine A0 (i:=14) (v:=.func (.func id) #[] caps) rfl (by kernel_rfl) (by kernel_rfl) (by kernel_rfl) (fun _ _ _ h=>h) (by kernel_rfl) (Or.inl ⟨by rfl,?_⟩) (fun _=>A.o.row) ?_
    ·intro w _;go_simp
    refine A0 (i:=16) (v:=pV wr.heap.size 31) rfl (by kernel_rfl) (by kernel_rfl) (by kernel_rfl) (fun _ _ _ h=>h) (by kernel_rfl) (Or.inl ⟨by rfl,?_⟩) (fun _=>A.o.row) ?_
    ·intro w _;go_simp
    refine Ae (i:=17) (v:=.agg (c4).toArray) rfl (by kernel_rfl) (by kernel_rfl) (by kernel_rfl) (fun _ _ _ h=>h) (by kernel_rfl) (yK (by rfl) 26 _ rfl (wr.heap.size) 31 (by kernel_rfl) (c4) _ (fun W hW=>BE hW (p:=(iV dk::(.string nm::(Ah (g 3 df)++(Ah rc++(iV rk::(c0++(c1++(c2++(c3++([]:LV))))))))))) (q:=([]:LV)) (by rw[al.o];simp) (by simp[A7,a0.o,V.o,U.o,X.o,Z.o])) qq rfl (BV Z.o)) A.o.row ?_
    refine A0 (i:=18) (v:=.func (.func id) #[] caps) rfl (by kernel_rfl) (by kernel_rfl) (by kernel_rfl) (fun _ _ _ h=>h) (by kernel_rfl) (Or.inl ⟨by rfl,?_⟩) (fun _=>A.o.row) ?_
    ·intro w _;go_simp
    refine A3 (i:=3) (by kernel_rfl) rfl (fun K H=>?_)
    go_simp
    have O:=yb (B6 HC.o e0 (FL G (([w.heap.size,w.heap.size+1,w.heap.size+2]++ob (.slice va vn vc))++[wr.heap.size])) (((bb&&q 3 df)&&qc)) Y.drew c0 am.o.1 s.o (by obtain ⟨w0,w1,w2,w3,w4,_⟩:=d.o;exact w0) (fun k f=>.inl (a1.o k f)) (fun k f=>by
     have h1:=A.o.lt;have h2:=a7.o
     rcases f with f|f
     ·have:=HG.o k f;omega
     ·have:=(ap.o k f).2;omega))
    refine O.o.mono ?_
    rintro e Z0 ⟨E,rfl,S,aa,T⟩
    have M:=A.o.call a2.o T
    have R:VE G (([w.heap.size,w.heap.size+1,w.heap.size+2]++ob (.slice va vn vc))++[wr.heap.size]) Z0 [E,c1,c2,c3,c4] [AM g e0,e1,e2,e3,e4]:=by
     obtain ⟨w0,w1,w2,w3,w4,_⟩:=d.o.bcall T a1.o
     exact ⟨S,w1,w2,w3,w4,trivial⟩
    have ab:=yb S.len
    refine H.o _ _ (fun _=>M.row) ?_
    clear H K A d s O S T
    have A:=yb M;have d:=yb R;have s:=yb aa
    clear M R aa
    refine A3 (i:=7) (by kernel_rfl) rfl (fun K H=>?_)
    go_simp
    have O:=yb (B6 HC.o e1 (FL G (([w.heap.size,w.heap.size+1,w.heap.size+2]++ob (.slice va vn vc))++[wr.heap.size])) ((((bb&&q 3 df)&&qc)&&AV q e0)) Z0 c1 am.o.2.1 s.o (by obtain ⟨w0,w1,w2,w3,w4,_⟩:=d.o;exact w1) (fun k f=>.inl (a1.o k f)) (fun k f=>by
     have h1:=A.o.lt;have h2:=a7.o
     rcases f with f|f
     ·have:=HG.o k f;omega
     ·have:=(ap.o k f).2;omega))
    refine O.o.mono ?_
    rintro e Z1 ⟨Q,rfl,S,aa,T⟩
    have M:=A.o.call a2.o T
    have R:VE G (([w.heap.size,w.heap.size+1,w.heap.size+2]++ob (.slice va vn vc))++[wr.heap.size]) Z1 [E,Q,c2,c3,c4] [AM g e0,AM g e1,e2,e3,e4]:=by
     obtain ⟨w0,w1,w2,w3,w4,_⟩:=d.o.bcall T a1.o
     exact ⟨w0,S,w2,w3,w4,trivial⟩
    have ad:=yb S.len
    refine H.o _ _ (fun _=>M.row) ?_
    clear H K A d s O S T
    have A:=yb M;have d:=yb R;have s:=yb aa
    clear M R aa
    refine A3 (i:=11) (by kernel_rfl) rfl (fun K H=>?_)
    go_simp
    have O:=yb (B6 HC.o e2 (FL G (([w.heap.size,w.heap.size+1,w.heap.size+2]++ob (.slice va vn vc))++[wr.heap.size])) (((((bb&&q 3 df)&&qc)&&AV q e0)&&AV q e1)) Z1 c2 am.o.2.2.1 s.o (by obtain ⟨w0,w1,w2,w3,w4,_⟩:=d.o;exact w2) (fun k f=>.inl (a1.o k f)) (fun k f=>by
     have h1:=A.o.lt;have h2:=a7.o
     rcases f with f|f
     ·have:=HG.o k f;omega
     ·have:=(ap.o k f).2;omega))
    refine O.o.mono ?_
    rintro e Z2 ⟨a6,rfl,S,aa,T⟩
    have M:=A.o.call a2.o T
    have R:VE G (([w.heap.size,w.heap.size+1,w.heap.size+2]++ob (.slice va vn vc))++[wr.heap.size]) Z2 [E,Q,a6,c3,c4] [AM g e0,AM g e1,AM g e2,e3,e4]:=by
     obtain ⟨w0,w1,w2,w3,w4,_⟩:=d.o.bcall T a1.o
     exact ⟨w0,w1,S,w3,w4,trivial⟩
    have af:=yb S.len
    refine H.o _ _ (fun _=>M.row) ?_
    clear H K A d s O S T
    have A:=yb M;have d:=yb R;have s:=yb aa
    clear M R aa
    refine A3 (i:=15) (by kernel_rfl) rfl (fun K H=>?_)
    go_simp
    have O:=yb (B6 HC.o e3 (FL G (([w.heap.size,w.heap.size+1,w.heap.size+2]++ob (.slice va vn vc))++[wr.heap.size])) ((((((bb&&q 3 df)&&qc)&&AV q e0)&&AV q e1)&&AV q e2)) Z2 c3 am.o.2.2.2.1 s.o (by obtain ⟨w0,w1,w2,w3,w4,_⟩:=d.o;exact w3) (fun k f=>.inl (a1.o k f)) (fun k f=>by
     have h1:=A.o.lt;have h2:=a7.o
     rcases f with f|f
     ·have:=HG.o k f;omega
     ·have:=(ap.o k f).2;omega))
    refine O.o.mono ?_
    rintro e Z3 ⟨ag,rfl,S,aa,T⟩
    have M:=A.o.call a2.o T
    have R:VE G (([w.heap.size,w.heap.size+1,w.heap.size+2]++ob (.slice va vn vc))++[wr.heap.size]) Z3 [E,Q,a6,ag,c4] [AM g e0,AM g e1,AM g e2,AM g e3,e4]:=by
     obtain ⟨w0,w1,w2,w3,w4,_⟩:=d.o.bcall T a1.o
     exact ⟨w0,w1,w2,S,w4,trivial⟩
    have ae:=yb S.len
    refine H.o _ _ (fun _=>M.row) ?_
    clear H K A d s O S T
    have A:=yb M;have d:=yb R;have s:=yb aa
    clear M R aa
    refine A3 (i:=19) (by kernel_rfl) rfl (fun K H=>?_)
    go_simp
    have O:=yb (B6 HC.o e4 (FL G (([w.heap.size,w.heap.size+1,w.heap.size+2]++ob (.slice va vn vc))++[wr.heap.size])) (((((((bb&&q 3 df)&&qc)&&AV q e0)&&AV q e1)&&AV q e2)&&AV q e3)) Z3 c4 am.o.2.2.2.2 s.o (by obtain ⟨w0,w1,w2,w3,w4,_⟩:=d.o;exact w4) (fun k f=>.inl (a1.o k f)) (fun k f=>by
     have h1:=A.o.lt;have h2:=a7.o
     rcases f with f|f
     ·have:=HG.o k f;omega
     ·have:=(ap.o k f).2;omega))
    refine O.o.mono ?_
    rintro e Z4 ⟨ao,rfl,S,aa,T⟩
    have M:=A.o.call a2.o T
    have R:VE G (([w.heap.size,w.heap.size+1,w.heap.size+2]++ob (.slice va vn vc))++[wr.heap.size]) Z4 [E,Q,a6,ag,ao] [AM g e0,AM g e1,AM g e2,AM g e3,AM g e4]:=by
     obtain ⟨w0,w1,w2,w3,w4,_⟩:=d.o.bcall T a1.o
     exact ⟨w0,w1,w2,w3,S,trivial⟩
    have ac:=yb S.len
    refine H.o _ _ (fun _=>M.row) ?_
    clear H K A d s O S T
    have A:=yb M;have d:=yb R;have s:=yb aa
    clear M R aa
    rw[al.o] at A
    refine A3 (i:=20) (by kernel_rfl) rfl (fun K H=>?_)
    go_simp
    refine H.o _ _ (fun _=>by rw[al.o];exact A.o.row) ?_
    clear H K
    refine A3 (i:=21) (by kernel_rfl) rfl (fun K H=>?_)
    rw[yx (by rfl)]
    refine AE 26 _ _ rfl wr.heap.size 7 (by kernel_rfl) E (by kernel_rfl) (p:=(iV dk::(.string nm::(Ah (g 3 df)++(Ah rc++(iV rk::([]:LV))))))) (m:=c0) (q:=(c1++(c2++(c3++c4)))) (t:=68) (by have h:=A.o.row;simpa using h) (by simp[A7,a0.o,V.o,U.o,X.o,Z.o,ab.o,ad.o,af.o,ae.o,ac.o]) (by rw[a0.o,ab.o]) (BV ab.o) (Ai (by obtain ⟨w0,w1,w2,w3,w4,_⟩:=d.o;exact w0)) ?_
    intro S0 a8
    have C:AF Z4 S0 wr.heap.size (iV dk::(.string nm::(Ah (g 3 df)++(Ah rc++(iV rk::(E++(c1++(c2++(c3++c4))))))))) 68:=by simpa using a8
    refine H.o _ _ (by intro h;cases h) ?_
    have M:=A.o.wrote C;have R:=d.o.wrt C (by simp);have hj:=HC.o.stab _ _ _ s.o (fun k f=>C.block k (by have:=a2.o k f;omega)) (by rw[C.size];exact ye _)
    clear H K A d s a8 C
    have A:=yb M;have d:=yb R;have s:=yb hj
    clear M R hj
    refine A3 (i:=22) (by kernel_rfl) rfl (fun K H=>?_)
    go_simp
    refine H.o _ _ (by intro h;cases h) ?_
    clear H K
    refine A3 (i:=23) (by kernel_rfl) rfl (fun K H=>?_)
    rw[yx (by rfl)]
    refine AE 26 _ _ rfl wr.heap.size 13 (by kernel_rfl) Q (by kernel_rfl) (p:=(iV dk::(.string nm::(Ah (g 3 df)++(Ah rc++(iV rk::(E++([]:LV)))))))) (m:=c1) (q:=(c2++(c3++c4))) (t:=68) (by have h:=A.o.row;simpa using h) (by simp[A7,a0.o,V.o,U.o,X.o,Z.o,ab.o,ad.o,af.o,ae.o,ac.o]) (by rw[V.o,ad.o]) (BV ad.o) (Ai (by obtain ⟨w0,w1,w2,w3,w4,_⟩:=d.o;exact w1)) ?_
    intro S1 a8
    have C:AF S0 S1 wr.heap.size (iV dk::(.string nm::(Ah (g 3 df)++(Ah rc++(iV rk::(E++(Q++(c2++(c3++c4))))))))) 68:=by simpa using a8
    refine H.o _ _ (by intro h;cases h) ?_
    have M:=A.o.wrote C;have R:=d.o.wrt C (by simp);have hj:=HC.o.stab _ _ _ s.o (fun k f=>C.block k (by have:=a2.o k f;omega)) (by rw[C.size];exact ye _)
    clear H K A d s a8 C
    have A:=yb M;have d:=yb R;have s:=yb hj
    clear M R hj
    refine A3 (i:=24) (by kernel_rfl) rfl (fun K H=>?_)
    go_simp
    refine H.o _ _ (by intro h;cases h) ?_
    clear H K
    refine A3 (i:=25) (by kernel_rfl) rfl (fun K H=>?_)
    rw[yx (by rfl)]
    refine AE 26 _ _ rfl wr.heap.size 19 (by kernel_rfl) a6 (by kernel_rfl) (p:=(iV dk::(.string nm::(Ah (g 3 df)++(Ah rc++(iV rk::(E++(Q++([]:LV))))))))) (m:=c2) (q:=(c3++c4)) (t:=68) (by have h:=A.o.row;simpa using h) (by simp[A7,a0.o,V.o,U.o,X.o,Z.o,ab.o,ad.o,af.o,ae.o,ac.o]) (by rw[U.o,af.o]) (BV af.o) (Ai (by obtain ⟨w0,w1,w2,w3,w4,_⟩:=d.o;exact w2)) ?_
    intro S2 a8
    have C:AF S1 S2 wr.heap.size (iV dk::(.string nm::(Ah (g 3 df)++(Ah rc++(iV rk::(E++(Q++(a6++(c3++c4))))))))) 68:=by simpa using a8
    refine H.o _ _ (by intro h;cases h) ?_
    have M:=A.o.wrote C;have R:=d.o.wrt C (by simp);have hj:=HC.o.stab _ _ _ s.o (fun k f=>C.block k (by have:=a2.o k f;omega)) (by rw[C.size];exact ye _)
    clear H K A d s a8 C
    have A:=yb M;have d:=yb R;have s:=yb hj
    clear M R hj
    refine A3 (i:=26) (by kernel_rfl) rfl (fun K H=>?_)
    go_simp
    refine H.o _ _ (by intro h;cases h) ?_
    clear H K
    refine A3 (i:=27) (by kernel_rfl) rfl (fun K H=>?_)
    rw[yx (by rfl)]
    refine AE 26 _ _ rfl wr.heap.size 25 (by kernel_rfl) ag (by kernel_rfl) (p:=(iV dk::(.string nm::(Ah (g 3 df)++(Ah rc++(iV rk::(E++(Q++(a6++([]:LV)))))))))) (m:=c3) (q:=c4) (t:=68) (by have h:=A.o.row;simpa using h) (by simp[A7,a0.o,V.o,U.o,X.o,Z.o,ab.o,ad.o,af.o,ae.o,ac.o]) (by rw[X.o,ae.o]) (BV ae.o) (Ai (by obtain ⟨w0,w1,w2,w3,w4,_⟩:=d.o;exact w3)) ?_
    intro S3 a8
    have C:AF S2 S3 wr.heap.size (iV dk::(.string nm::(Ah (g 3 df)++(Ah rc++(iV rk::(E++(Q++(a6++(ag++c4))))))))) 68:=by simpa using a8
    refine H.o _ _ (by intro h;cases h) ?_
    have M:=A.o.wrote C;have R:=d.o.wrt C (by simp);have hj:=HC.o.stab _ _ _ s.o (fun k f=>C.block k (by have:=a2.o k f;omega)) (by rw[C.size];exact ye _)
    clear H K A d s a8 C
    have A:=yb M;have d:=yb R;have s:=yb hj
    clear M R hj
    refine A3 (i:=28) (by kernel_rfl) rfl (fun K H=>?_)
    go_simp
    refine H.o _ _ (by intro h;cases h) ?_
    clear H K
    refine A3 (i:=29) (by kernel_rfl) rfl (fun K H=>?_)
    rw[yx (by rfl)]
    refine AE 26 _ _ rfl wr.heap.size 31 (by kernel_rfl) ao (by kernel_rfl) (p:=(iV dk::(.string nm::(Ah (g 3 df)++(Ah rc++(iV rk::(E++(Q++(a6++(ag++([]:LV))))))))))) (m:=c4) (q:=([]:LV)) (t:=68) (by have h:=A.o.row;simpa using h) (by simp[A7,a0.o,V.o,U.o,X.o,Z.o,ab.o,ad.o,af.o,ae.o,ac.o]) (by rw[Z.o,ac.o]) (BV ac.o) (Ai (by obtain ⟨w0,w1,w2,w3,w4,_⟩:=d.o;exact w4)) ?_
    intro S4 a8
    have C:AF S3 S4 wr.heap.size (iV dk::(.string nm::(Ah (g 3 df)++(Ah rc++(iV rk::(E++(Q++(a6++(ag++ao))))))))) 68:=by simpa using a8
    refine H.o _ _ (by intro h;cases h) ?_
    have M:=A.o.wrote C;have R:=d.o.wrt C (by simp);have hj:=HC.o.stab _ _ _ s.o (fun k f=>C.block k (by have:=a2.o k f;omega)) (by rw[C.size];exact ye _)
    clear H K A d s a8 C
    have A:=yb M;have d:=yb R;have s:=yb hj
    clear M R hj
    refine BS (by kernel_rfl) ?_
    refine NoPanic.normal ?_
    refine d8.o _ _ ?_
    obtain ⟨aq,bu⟩:∃r:LV,r=(iV dk::(.string nm::(Ah (g 3 df)++(Ah rc++(iV rk::(E++(Q++(a6++(ag++ao))))))))):=⟨_,rfl⟩
    rw[<-bu] at A
    have bm:Hid (CH (GF (FL G ([w.heap.size,w.heap.size+1,w.heap.size+2]++ob (.slice va vn vc))) S4) S4 aq (Cx g ⟨dk,nm,df,dr,rk,e0,e1,e2,e3,e4⟩)):=yb (by
     rw[bu]
     obtain ⟨x0,x1,x2,x3,x4,_⟩:=d.o.up (l':=[w.heap.size,w.heap.size+1,w.heap.size+2]++ob (.slice va vn vc)) (Bj.refl _ _) (fun k f=>.inl (yo.2 (.inl f)))
     exact ⟨dd.o,HC.o.name _ _ d3.o,by rw[show (Cx g (⟨dk,nm,df,dr,rk,e0,e1,e2,e3,e4⟩:AG)).reach=rc by rw[b3.o];rfl];exact d5.o,_,_,_,_,_,by rw[b3.o];rfl,x0,x1,x2,x3,x4⟩)
    clear bu d
    have ba:=yb (Hl bm.o).1;have dm:=yb (Hl bm.o).2
    have c8:Hid (MS F w cs (P++(.slice va vn vc::[.slice none 0 0])) S4):=yb (HM.o.ms.up ah.o a7.o A.o.bx)
    have dw:S4.cell? (aV (w.heap.size+2) 24)=some (.slice va vn vc):=c8.o.cellx rfl cq.o
    have d0:Hid (Bj (FL G ([w.heap.size,w.heap.size+1,w.heap.size+2]++ob (.slice va vn vc))) wr S4):=yb (A.o.bx.flux (ye _) (fun k f=>.inl (a1.o k f)))
    have cp:=HM.o.grow.up (l':=[w.heap.size,w.heap.size+1,w.heap.size+2]) Ec d0.o (fun k f=>A.o.bx.block k (HM.o.grow.lt k f).2 (fun h=>by have:=ah.o k h;have:=(HM.o.grow.lt k f).1;omega)) (fun _ h=>.inl h)
    obtain ⟨rows,b9,co,az⟩:=cp.own
    have d4:=yb b9;have dj:=yb co;have cv:=yb az
    have bg:Hid (w.heap.size+3<=S4.heap.size):=yb c8.o.lt
    have c9:Hid ((S4.alloc (.cells aq.toArray 68)).ownsRow (w.heap.size+3) 68 37 (.slice va vn vc) rows.length rows.flatten):=yb (BA b9 fun k f=>((yg _ _).alloc (ye _) _).block k (F9 b9 k f).2)
    have cd:Hid (rows.length+1<=1000000):=yb (by rw[At.length az,d9.o];exact dq.o)
    have dl:Hid (w.heap.size+3<=(S4.alloc (.cells aq.toArray 68)).heap.size):=yb (by have:=bg.o;simp;omega)
    clear b9 co az cp
    go_upto_region 62 with (first
     |(with_reducible refine yj rfl 68 _ rfl wr.heap.size 0 (by kernel_rfl) aq _ (Ay A.o.row) qN (by kernel_rfl) (BW (n:=37) (by kernel_rfl) ba.o) ?_)
     |(with_reducible refine BN rfl 32 68 _ rfl aq (by kernel_rfl) 37 qz (by kernel_rfl) ba.o (by omega) (by omega) ?_)
     |(at_builtin;refine Bd qz rfl _ _ rfl 37 (by kernel_rfl) (by omega) (w.heap.size+3) (.slice va vn vc) rows.length rows.flatten (by kernel_rfl) c9.o S4.heap.size 1 aq (by kernel_rfl) (World.alloc_heap_new _ _) ba.o dm.o cd.o dl.o ?_;intro vx x8 ax cm ch;obtain ⟨xa,xn,xc,rfl⟩:=Cz ax;have ak:=yb (CD Ec cv.o dj.o d4.o bm.o ba.o ax cm ch bg.o);have bh:=yb (c8.o.up ah.o (ye _) (.of ak.o.below));clear ax cm ch)
     |(with_reducible refine Ao rfl 32 _ _ rfl (w.heap.size+2) 24 (by kernel_rfl) (.slice xa xn xc) (by kernel_rfl) (by kernel_rfl) (p:=P) (m:=.slice va vn vc) (q:=[.slice none 0 0]) (t:=35) bh.o.x cq.o (by kernel_rfl) (by kernel_rfl) ?_;intro x9 cy;have ar:=yb cy;clear cy))
    go_wp2
    have d7:Hid (I (i+1) x9):=yb (by
     rw[HI.o]
     refine ⟨.slice xa xn xc,bh.o.wrote ar.o,?_,?_,?_⟩
     ·rw[show (b&&(x.rights.take (i+1)).all (Dn q))=(((((((bb&&q 3 df)&&qc)&&AV q e0)&&AV q e1)&&AV q e2)&&AV q e3)&&AV q e4) by rw[be.o];simp only[Dn,zc];rw[bo.o]]
      exact HC.o.stab _ _ _ s.o (fun k f=>(ar.o.block k (by have:=ah.o k f;omega)).trans (ak.o.below.block k (by have:=ah.o k f;omega))) (by rw[ar.o.size];exact ak.o.flux.1)
     ·exact ((HM.o.got.flux d0.o (fun _ h=>.inl h)).flux ak.o.flux (Im ak.o.obs)).flux (ar.o.flux (.inr (by simp))) (fun _ h=>.inl h)
     ·have h:=ak.o.grow.up (l':=[w.heap.size,w.heap.size+1,w.heap.size+2]) Ec (ar.o.flux (.inr (by simp))) (fun k f=>ar.o.block k (by have:=(ak.o.grow.lt k f).1;omega)) (fun _ h=>.inl h)
      rw[<-bn.o] at h
      exact h)
    exact ⟨⟨i+1,by push_cast;rfl,by omega,d7⟩,by simp[intOf];omega⟩)
   clear cz
   have dv:X2.cell? (aV wr.heap.size 0)=some (iV dk):=Cp (A.o.part (p:=([]:LV)) (m:=[iV dk]) (q:=(.string nm::(Ah (g 3 df)++(Ah dr++(iV rk::(c0++(c1++(c2++(c3++c4))))))))) (by simp) (by simp))
   by_cases aj:dk=1
   ·subst aj
    go_wp2
    refine Jf (id:=id) (caps:=caps) (w:=w) (u:=u) (v:=.slice (some (aV bq oq)) n c) (n:=n) (i:=i) (B:=wr.heap.size) (P:=fun l=>K2 ⟨l,[]⟩ X2) ?_ (by kernel_rfl)
    exact au.o _ _ (by rw[show rc=dr by rw[b3.o];first|exact yx rfl|exact yx aj|exact yx trivial|simp];exact A.o) d.o (by rw[show qc=true by rw[bo.o];first|exact yx rfl|exact yx aj|exact yx trivial|simp,yT];exact s.o)
   ·have dx:(dk==1)=false:=by simpa using aj
    have dt:=yb (d.o.1).len
    have bd:=yb (HC.o.call ((bb&&q 3 df)) X2 2 wr.heap.size 4 (iV dk::(.string nm::(Ah (g 3 df)++([]:LV)))) dr (iV rk::(c0++(c1++(c2++(c3++c4))))) 68 s.o (by have h:=A.o.row;simpa[yl] using h) (by simp[A7]) ca.o c6.o (by decide) (by decide))
    go_wp2
    rw[HC.o.enter,zR]
    refine bd.o.mono ?_
    rintro e X9 ⟨rfl,hj,hx⟩
    have an:WX F X2 X9 wr.heap.size (iV dk::(.string nm::(Ah (g 3 df)++(Ah (g 2 dr)++(iV rk::(c0++(c1++(c2++(c3++c4))))))))) 68:=by simpa[yl] using hx
    have M:=A.o.cb an;have R:=d.o.cb an a1.o (by simp)
    have di:=yb M;have dg:=yb R;have db:=yb hj
    clear M R hj an hx
    go_wp2
    refine Jf (id:=id) (caps:=caps) (w:=w) (u:=u) (v:=.slice (some (aV bq oq)) n c) (n:=n) (i:=i) (B:=wr.heap.size) (P:=fun l=>K2 ⟨l,[]⟩ X9) ?_ (by kernel_rfl)
    exact au.o _ _ (by rw[show rc=g 2 dr by rw[b3.o];first|exact yu aj|exact yu (fun h=>h)|simp[aj]];exact di.o) dg.o (by rw[show qc=q 2 dr by rw[bo.o];first|exact yu aj|exact yu (fun h=>h)|simp[aj]];exact db.o)
  ·obtain rfl:i=n:=by omega
   have dc:decide ((i:Int) < (i:Int))=false:=by simp
   have HQ:Hid (J (b&&x.rights.all (Dn q)) wr):=yb (by have h:=HM.o.j;simp only[av.o,yw] at h;exact h)
   have cg:DA CH 68 37 (w.heap.size+3) G [w.heap.size,w.heap.size+1,w.heap.size+2] wr (.slice va vn vc) (x.rights.map (Cx g)):=by have h:=HM.o.grow;simp only[av.o,yw] at h;exact h
   obtain ⟨hd,d2,cn⟩:=cg.done Ec (fun k f=>by have:=HG.o k f;omega) (fun k f=>by simp at f;omega) (by have:=c5.o;simp;omega)
   have dp:Hid (Dl 6 (GF (FL G [w.heap.size,w.heap.size+1,w.heap.size+2]) wr) wr c0 c1 c2 h0 h1 h2 h3 h4 hd ⟨none,0,0⟩ (⟨y.name,y.season,y.cap,y.start,y.lets,y.crops,y.reaches,y.farms,y.rots,(x.rights.map (Cx g)),y.duties⟩:An)):=yb (by
    have h:=HM.o.got.flux (F':=FL G [w.heap.size,w.heap.size+1,w.heap.size+2]) (Bj.refl _ _) (fun k f=>.inl (f.imp (fun h=>h) (fun h=>yo.2 (.inl h))))
    exact ⟨h.name,h.e0,h.e1,h.e2,fun f=>h.lets (by omega),fun f=>h.crops (by omega),fun f=>h.reaches (by omega),fun f=>h.farms (by omega),fun f=>h.rots (by omega),fun _=>cn,fun f=>absurd f (by omega)⟩)
   rw[d2] at HM
   have de:=yb HM.o.ms
   clear cg d2 cn HM
   go_wp2
   refine H.o _ _ ?_
   refine FC (P:=fun l=>Code.wp Try.prog _ _ ⟨l,[]⟩ wr) rfl ?_
   refine Ua (y:=(⟨y.name,y.season,y.cap,y.start,y.lets,y.crops,y.reaches,y.farms,y.rots,(x.rights.map (Cx g)),y.duties⟩:An)) HC.o HV.o cf.o a1.o HG.o ?_ (by have h:=de.o;rw[da.o] at h;simpa[yl] using h) dp.o HQ.o
   exact ⟨rfl,rfl,rfl,rfl⟩
end Go.Proofs.Ytghepahgkcigpaa
