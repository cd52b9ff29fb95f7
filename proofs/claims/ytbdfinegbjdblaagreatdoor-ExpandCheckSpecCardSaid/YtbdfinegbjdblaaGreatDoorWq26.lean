/- Parts of the proof, in short words: Cd Ce Cf Cg -/
import Derived.Test.YtbdfinegbjdblaaGreatDoorWq0
import Derived.Test.YtbdfinegbjdblaaGreatDoorWq25
import Derived.Deep.CutRange
set_option maxRecDepth 100000
set_option maxHeartbeats 64000000
set_option linter.unusedSimpArgs false
namespace Go.Proofs.YtbdfinegbjdblaaGreatDoor
open Go.RowKit
set_option linter.unusedVariables false
theorem aY{w W:World}{Cb Rb:Nat}{N:NP}{L:BQ}{ss:LV}{x:AM}{o:Option (Bk × List Rt)}{u:Nat->Value}{vs:List Rt}{d:Bk}{v:Nat->Value}(hc:BC w Cb N L ss x)(hu:UB w Cb u)(hS:N3 w Cb Rb vs ss d v W)(z:o=UW x d vs){hrs:Int}(hd:d.hours=hrs/\d.duties.length=0)(hb: -4611686018427387904<=hrs/\hrs<=4611686018427387904)(hl:vs.length=x.rights.length*5+x.duties.length/\d.rights.length<=10000000000):BT 9 o w Cb Rb u W:=by
 unfold BT
 obtain ⟨⟨a,n,c⟩,hL⟩:∃h:AA,L.rights=h:=⟨_,rfl⟩
 have t:=(hc.cells hS).2.2.2.2.2.2.1
 have ah:Hid (Bg N w 37 (Gu N w) ⟨a,n,c⟩ x.rights):=yb (by have h:=hc.v.rights;rw[hL] at h;exact h)
 rw[hL] at t
 unfold AA.v at t
 dsimp only at t
 have O:Hid (n=x.rights.length):=yb ah.o.1
 have am:Hid (x.rights.length<=100000):=yb hc.slim.rights
 have b5:n<=140737488355328:=by have:=O.o;have:=am.o;omega
 obtain ⟨I,hI⟩:∃I:Nat->World->Prop,I=λi W=>∃d v vs,N3 w Cb Rb vs ss d v W/\Js (Pj hrs) Lt (UU x) x.rights o i d vs/\vs.length=(x.rights.drop i).length*5+x.duties.length/\d.rights.length<=10000000000+i/\d.hours=hrs/\d.duties.length=0:=⟨_,rfl⟩
 have ai:Hid (I 0 W):=yb (by rw[hI];exact ⟨d,v,vs,hS,Js.start (by rw[<-hd.1];exact z),by rw[xA];exact hl.1,by have:=hl.2;omega,hd.1,hd.2⟩)
 have HI:=yb hI;have HC:=yb hc;have HU:=yb hu
 have b9:=yb hl
 have aw:=yb hb
 have b8:=yb hd
 rw[I6,hu.u1,hu.u2,hu.u4,hu.u5]
 clear hc hS z hL hI hu hl hb hd
 refine Ai λK B=>?_
 go_wp2
 go_loopw [166] (λiv wr=>∃i:Nat,iv=iV i/\i<=n/\Hid (I i wr)) (λiv _=>n - (intOf iv).toNat)
 case atStart=>exact ⟨0,rfl,yC _,ai⟩
 clear ai t
 obtain ⟨i,rfl,hi,ac⟩:=hrel
 obtain ⟨d,v,vs,HS,ab,m⟩:∃d v vs,Hid (N3 w Cb Rb vs ss d v wr)/\Hid (Js (Pj hrs) Lt (UU x) x.rights o i d vs)/\Hid (vs.length=(x.rights.drop i).length*5+x.duties.length/\d.rights.length<=10000000000+i/\d.hours=hrs/\d.duties.length=0):=by
  have h:=ac.o
  rw[HI.o] at h
  obtain ⟨d,v,vs,h1,h2,h3⟩:=h
  exact ⟨d,v,vs,yb h1,yb h2,yb h3⟩
 clear ac
 by_cases aq:i < n
 ·have S:i < x.rights.length:=by rw[<-O.o];exact aq
  have av:(i:Int) < (n:Int):=by omega
  have A:Hid (i < x.rights.length):=yb S
  obtain ⟨b,oo,ct,ax,a6,aj,ae,a7⟩:=ah.o.2.2 i S
  obtain rfl:a=some (aV b oo):=ax
  have ak:Hid (wr.rangeAt b (oo+i*37) ct):=yb (A8 ae (HS.o.cu.bel.block _ (HC.o.n b a6).1 (HC.o.n b a6).2))
  have H:=yb aj
  obtain ⟨D,hD⟩:∃D,x.rights[i]'S=D:=⟨_,rfl⟩
  rw[hD] at a7
  have HD:Hid (x.rights[i]'A.o=D):=yb hD
  have ap:=yb a7
  obtain ⟨-, -, -,c0,c1,c2,c3,c4,G,g0,g1,g2,g3,g4⟩:=a7
  obtain ⟨a0,p0,rfl, -⟩:=g0.cells
  obtain ⟨a1,p1,rfl, -⟩:=g1.cells
  obtain ⟨a2,p2,rfl, -⟩:=g2.cells
  obtain ⟨a3,p3,rfl, -⟩:=g3.cells
  obtain ⟨a4,p4,rfl, -⟩:=g4.cells
  clear g0 g1 g2 g3 g4
  have b7:=yb G
  have ag:Hid (∀v∈ct,v.oneCell'=true):=yb (by rw[G];simp[B6,AA.v,Value.oneCell'])
  clear ae a6 aj hD G
  go_upto_region 40 with (first
   |(with_reducible refine yj rfl 127 _ rfl b (oo+i*37) (by kernel_rfl) ct _ ak.o j0 (by kernel_rfl) (by rw[H.o];kernel_rfl) ?_)
   |(with_reducible refine yt rfl 127 _ _ rfl wr.heap.size ct.toArray (by kernel_rfl) (by kernel_rfl) 127 _ (World.alloc_heap_new _ _) (by rw[yA,H.o];kernel_rfl) (by simp[H.o]) (yL ag.o) ?_;rw[World.setRow_alloc_new]))
  have p:=yb (Iw.mk' HS.o ct 127)
  generalize b3:wr.heap.size=bx at p |-
  clear b3 HS ak
  generalize wr.alloc _=wr at p |-
  obtain ⟨X,Y,U,v3,v4,r,az⟩:∃X Y U v3 v4 r,vs=X::Y::U::v3::v4::r:=by
   have h:=m.o.1
   match vs,h with
   |a0::a1::a2::a3::a4::r,_=>exact ⟨_,_,_,_,_,_,rfl⟩
   |[],h=>simp at h;omega
   |[_],h=>simp at h;omega
   |[_,_],h=>simp at h;omega
   |[_,_,_],h=>simp at h;omega
   |[_,_,_,_],h=>simp at h;omega
  subst az
  obtain ⟨T,hT⟩:∃T:World->Prop,T=λV=>V.cell? (aV (w.heap.size+1) 7)=some (v 3)/\V.cell? (aV (w.heap.size+1) 1)=some (iV d.hours)/\V.rangeAt bx 0 ct/\True:=⟨_,rfl⟩
  have Z:=yb hT
  have J:Hid (∀V,V.heap[w.heap.size]?=some (.cells ss.toArray 49 (0,0))->V.heap[w.heap.size+1]?=some (.cells (Dc d v).toArray 31 (0,0))->V.heap[bx]?=some (.cells ct.toArray 127 (0,0))->T V):=yb (λV h0 h1 h2=>by
   rw[hT]
   have h3:=BV h1
   exact ⟨h3.2.2.2.2.2.2.2.1,h3.2.1,Ae h2,trivial⟩)
  clear hT
  have E:=yb p.o.drew
  refine Cu (by kernel_rfl) T 10 [(0,170,pV (w.heap.size+1) 7),(1,171,v 3),(2,172,.agg ct.toArray),(3,173,pV (w.heap.size+1) 1),(4,174,iV d.hours),(5,175,Lo Cb)] 5 (by kernel_rfl) (by kernel_rfl) (λ_ _ _ _ _ h=>h) (J.o _ E.o.st.s E.o.st.b E.o.x) (by kernel_rfl) ?_ ?_
  ·simp only[Ct]
   refine ⟨?_,?_,?_,?_,?_,?_,trivial⟩
   ·intro o z V q
    obtain rfl:=yf z
    rw[Z.o] at q
    obtain ⟨y0,y1,y2,y3⟩:=q
    go_simp
   ·intro o z V q
    obtain rfl:=yf z
    rw[Z.o] at q
    obtain ⟨y0,y1,y2,y3⟩:=q
    go_simp
   ·intro o z V q
    obtain rfl:=yf z
    rw[Z.o] at q
    exact C1 127 (.tmp 17) rfl bx 0 (by kernel_rfl) ct _ q.2.2.1 j0 rfl (by rw[H.o];kernel_rfl)
   ·intro o z V q
    obtain rfl:=yf z
    rw[Z.o] at q
    obtain ⟨y0,y1,y2,y3⟩:=q
    go_simp
   ·intro o z V q
    obtain rfl:=yf z
    rw[Z.o] at q
    obtain ⟨y0,y1,y2,y3⟩:=q
    go_simp
   intro o z V q
   obtain rfl:=yf z
   rw[Z.o] at q
   obtain ⟨y0,y1,y2,y3⟩:=q
   go_simp
  generalize wr.drew=wr at E |-
  clear p
  have p:=E
  clear E
  simp only[Cs]
  refine Aq (i:=6) (by kernel_rfl) rfl rfl (λK B=>?_)
  go_simp
  have f:=p.o.st.cu
  refine (Ps ap.o d.hours (by have h:=m.o.2.2.1;have:=aw.o;rw[h];exact this) i X Y U v3 v4 r f.cur f.ne ⟨yx f.lt.1 f.bel.size,yx f.lt.2 f.bel.size⟩).mono ?_
  rw[TJ]
  by_cases h5:X.d<=1/\Y.d<=1/\U.d<=1/\v3.d<=1/\v4.d<=1
  rotate_left 1
  ·rw[ym h5]
   have hr:o=none:=ab.o.bad A.o (by rw[TJ,ym h5])
   rintro e w2 ⟨rfl,an⟩
   exact E8 hr rfl (f.bel.trans (an.mono f.bel.size))
  rw[yz h5]
  have ad:Hid (Pj hrs i (x.rights[i]'A.o) (X::Y::U::v3::v4::r)=some (Kk d.hours D X.n Y.n U.n v3.n v4.n,r)):=yb (by rw[TJ,yz h5,HD.o,m.o.2.2.1])
  generalize Kk d.hours D X.n Y.n U.n v3.n v4.n=gg at ad
  rintro e w2 ⟨rfl,M⟩
  have C:=yb (p.o.call (vs':=r) ⟨M.cur,f.bel.trans (M.bel.mono f.bel.size),f.ne,f.lt⟩ M.bel)
  clear M f p h5
  have p:=C
  clear C
  refine B.o _ _ (λ_=>J.o _ p.o.st.s p.o.st.b p.o.x) ?_
  clear B K
  refine Aq (i:=7) (by kernel_rfl) rfl rfl (λK B=>?_)
  obtain ⟨w3,Q⟩:∃w3,w3=w2.alloc (.cells #[.string gg.name,iV gg.kind,iV gg.farm,iV gg.reach,iV gg.rank,iV gg.litres,iV gg.frm,iV gg.to,iV gg.every,iV gg.len] 62):=⟨_,rfl⟩
  have C:=yb (p.o.up ((yg _ _).alloc (yi _) (.cells #[.string gg.name,iV gg.kind,iV gg.farm,iV gg.reach,iV gg.rank,iV gg.litres,iV gg.frm,iV gg.to,iV gg.every,iV gg.len] 62)))
  have HG:Hid (w3.heap[w2.heap.size]?=some (.cells #[.string gg.name,iV gg.kind,iV gg.farm,iV gg.reach,iV gg.rank,iV gg.litres,iV gg.frm,iV gg.to,iV gg.every,iV gg.len] 62 (0,0))):=yb (by rw[Q];exact World.alloc_heap_new _ _)
  rw[<-Q] at C
  refine E5 27 62 _ [[.string gg.name,iV gg.kind,iV gg.farm,iV gg.reach,iV gg.rank,iV gg.litres,iV gg.frm,iV gg.to,iV gg.every,iV gg.len]] 1 rfl [.string gg.name,iV gg.kind,iV gg.farm,iV gg.reach,iV gg.rank,iV gg.litres,iV gg.frm,iV gg.to,iV gg.every,iV gg.len] (by simp) rfl (by kernel_rfl) 10 jc (by kernel_rfl) (by simp) (by omega) (by omega) ?_
  rw[show w2.alloc _=w3 from Q.symm]
  clear p Q
  have p:=C
  clear C
  refine B.o _ _ (λ_=>J.o _ p.o.st.s p.o.st.b p.o.x) ?_
  clear B K
  generalize w2.heap.size=g at HG |-
  refine Aq (i:=8) (by kernel_rfl) rfl rfl (λK B=>?_)
  obtain ⟨va,vm,vk,ay⟩:=AR (p.o.st.own 3 (by decide))
  have af:=yb (p.o.st.own 3 (by decide))
  refine Dn jc (.tmp 171) (.tmp 177) rfl 10 (by kernel_rfl) (by decide) (w.heap.size+2) (v 3) (EN d 3) (Lv d 3) (by kernel_rfl) af.o g 1 (AZ gg) (by kernel_rfl) HG.o rfl (by simp[Value.oneCell',JS,Jr,AZ,IS,Ft]) (by have h:=m.o.2.1;have:=am.o;have:=A.o;show (d.rights.length+1)*128<=_;omega) (by have:=p.o.st.lt;omega) ?_
  intro v9 w9 F a8 b4
  have y:=yb (p.o.st.app (d':=Lt d gg) (k:=3) (by decide) (x:=v9) (by simpa[EN,Lv,Pv,Rk,Lt] using F) a8 (λj hj b0=>by
   match j,hj with
   |0,_=>exact ⟨rfl,rfl⟩
   |1,_=>exact ⟨rfl,rfl⟩
   |2,_=>exact ⟨rfl,rfl⟩
   |3,_=>exact absurd rfl b0
   |4,_=>exact ⟨rfl,rfl⟩))
  have au:Hid (w9.heap[bx]?=some (.cells ct.toArray 127 (0,0))):=yb ((a8.block bx (yd.1 p.o.x).1 (λe=>p.o.ne 3 (by decide) e.symm)).trans p.o.x)
  obtain ⟨za,zm,zk,rfl⟩:=AR F
  clear F a8 b4 p af HG ay
  have al:Hid (T w9):=yb (J.o _ y.o.s y.o.b au.o)
  refine B.o _ _ (λ_=>al.o) ?_
  clear B K
  refine BN (T:=T) (k:=10) (by kernel_rfl) (λ_ _ _ _ _ h=>h) (al.o) [(9,179,pV (w.heap.size+1) 7)] 1 _ _ (by kernel_rfl) ?_ ?_
  ·simp only[Ct]
   refine ⟨?_,trivial⟩
   intro o z V q
   obtain rfl:=yf z
   rw[Z.o] at q
   obtain ⟨y0,y1,y2,y3⟩:=q
   go_simp
  simp only[Cs]
  refine Aq (i:=10) (by kernel_rfl) rfl rfl (λK B=>?_)
  have aa:=y.o.b
  have c9:=(BV aa).2.2.2.2.2.2.2.1
  have f9:w9.frozen? (aV (w.heap.size+1) 7)=false:=by simp[World.frozen?,aa]
  go_simp
  refine B.o _ _ (by intro h;cases h) ?_
  clear B K c9 f9 aa
  refine AP (by kernel_rfl) ?_
  have R:=yb (y.o.set (k:=7) (x:=.slice za zm zk) rfl)
  clear y
  have y:=R
  clear R
  generalize w9.setCell _ _=wr at y |-
  have ao:Hid (I (i+1) wr):=yb (by
   rw[HI.o]
   exact ⟨Lt d gg,_,r,y.o,ab.o.step A.o ad.o,by have h:=m.o.1;have h2:=A.o;simp at h |-;omega,by have h:=m.o.2.1;simp[Lt];omega,m.o.2.2.1,m.o.2.2.2⟩)
  go_wp2
  exact ⟨⟨i+1,by push_cast;rfl,by omega,ao⟩,by simp[intOf];omega⟩
 obtain rfl:i=n:=by omega
 have av:decide ((i:Int) < (i:Int))=false:=by simp
 have HE:Hid (o=(UU x) d vs):=yb (by have h:=ab.o;rw[O.o] at h;exact h.done)
 go_wp2
 refine B.o _ _ ?_
 refine I7 (P:=λl=>Code.wp Tryz.prog _ _ ⟨l,[]⟩ _) rfl ?_
 exact aX HC.o ⟨rfl,rfl,rfl,rfl⟩ HS.o HE.o ⟨by have h:=m.o.1;rw[O.o,xE] at h;simpa using h,m.o.2.2.2⟩
set_option linter.unusedVariables false
theorem N6{fs:List BG}{x:Bq}{flow tt:Int}:∀ {ts:List C6} {st:Int} {vs:List Rt} {q:List CA × Int} {l:List Rt},Cr fs x flow tt st ts vs=some (q,l)->q.1.length=ts.length
 |[],_,_,_,_,h=>by rw[Cr] at h;cases h;rfl
 |t::ts,st,[],q,l,h=>by rw[Cr] at h;cases h
 |t::ts,st,v::vs,q,l,h=>by
  rw[J1] at h
  split at h
  ·split at h
   ·cases a:Cr fs x flow tt (st+v.n) ts vs with
    |none=>rw[a] at h;cases h
    |some p=>rw[a] at h;cases h;simp[N6 a]
   cases h
  cases h
theorem Rn{fs:List BG}{x:Bq}{b c d:Rt}{r:List Rt}{l:List CA}{l':List Rt}(h:Is fs x (b::c::d::r)=some (l,l')):0 < l.length/\l.length=x.turns.length:=by
 rw[YH] at h
 split at h
 ·split at h
  ·cases h
  cases a:Cr fs x b.n d.n c.n x.turns r with
  |none=>rw[a] at h;cases h
  |some p=>
   rw[a] at h
   dsimp only at h
   have:=N6 a
   split at h
   ·cases h;simp;omega
   cases h
 cases h
theorem X3(l:List CA):∀u∈l.flatMap AZ,u.oneCell'=true:=by
 intro u a
 obtain ⟨g, -,hg⟩:=zl.1 a
 simp only[AZ,yq,yu,yV] at hg
 rcases hg with rfl|rfl|rfl|rfl|rfl|rfl|rfl|rfl|rfl|rfl<;>rfl
theorem V4{N:NP}{w W:World}{t:AA}{cs:LV}{d:Bq}(hb:∀b,N b->W.heap[b]?=w.heap[b]?)(h:Ip N w t cs d):Ip N W t cs d:=by
 obtain ⟨h1,h2,c0,c1,c2,e,g0,g1,f,hr⟩:=h
 exact ⟨h1,h2,c0,c1,c2,e,Bm.same (λ_ h=>h) hb g0,Bm.same (λ_ h=>h) hb g1,Bm.same (λ_ h=>h) hb f,hr.same (λ_ h=>h) hb λcs d hd=>by
  obtain ⟨g,c,a,i⟩:=hd
  exact ⟨g,c,a,Bm.same (λ_ h=>h) hb i⟩⟩
theorem aZ{w W:World}{Cb Rb:Nat}{N:NP}{L:BQ}{ss:LV}{x:AM}{o:Option (Bk × List Rt)}{u:Nat->Value}{vs:List Rt}{d:Bk}{v:Nat->Value}(hc:BC w Cb N L ss x)(hu:UB w Cb u)(hS:N3 w Cb Rb vs ss d v W)(C:o=UX x d vs){hrs:Int}(hd:d.hours=hrs/\d.duties.length=0/\d.rights.length=0)(hb: -4611686018427387904<=hrs/\hrs<=4611686018427387904)(hl:vs.length=(x.rots.flatMap F8).length+(x.rights.length*5+x.duties.length))(ae:∀v∈vs, -1073741824<=v.n/\v.n<=1073741824):BT 8 o w Cb Rb u W:=by
 unfold BT
 obtain ⟨⟨a,n,c⟩,hL⟩:∃h:AA,L.rots=h:=⟨_,rfl⟩
 have y:=(hc.cells hS).2.2.2.2.2.1
 have ak:Hid (n=x.rots.length/\x.rots.length<=140737488355328/\∀i (hi:i < x.rots.length),∃b o cs,a=some (aV b o)/\N b/\cs.length=23/\w.rangeAt b (o+i*23) cs/\Ip N w (Ac L i) cs x.rots[i]):=yb (by have h:=hc.v.rots;rw[hL] at h;exact h)
 rw[hL] at y
 unfold AA.v at y
 dsimp only at y
 have H:Hid (n=x.rots.length):=yb ak.o.1
 have aa:Hid (x.rots.length<=100000):=yb hc.slim.rots
 have bj:n<=140737488355328:=by have:=H.o;have:=aa.o;omega
 obtain ⟨I,hI⟩:∃I:Nat->World->Prop,I=λi W=>∃d v vs,N3 w Cb Rb vs ss d v W/\Js (λ_=>Is x.farms) Ls (UW x) x.rots o i d vs/\vs.length=((x.rots.drop i).flatMap F8).length+(x.rights.length*5+x.duties.length)/\(∀v∈vs, -1073741824<=v.n/\v.n<=1073741824)/\d.rights.length<=100000*i/\d.hours=hrs/\d.duties.length=0:=⟨_,rfl⟩
 have al:Hid (I 0 W):=yb (by rw[hI];exact ⟨d,v,vs,hS,Js.start C,by rw[xA];exact hl,ae,by omega,hd.1,hd.2.1⟩)
 have be:Hid ((Tryz.prog.info? 49).map (·.size)=some ss.length):=yb (Ll hc.v)
 have HI:=yb hI;have J:=yb hc;have HU:=yb hu
 have bn:=yb hl
 have b9:=yb hb
 have bm:=yb hd
 have bi:=yb ae
 rw[I6,hu.u1,hu.u2,hu.u4,hu.u5]
 clear hc hS C hL hI hu hl hb hd ae
 refine Ai λK M=>?_
 go_wp2
 go_loopw [150] (λiv wr=>∃i:Nat,iv=iV i/\i<=n/\Hid (I i wr)) (λiv _=>n - (intOf iv).toNat)
 case atStart=>exact ⟨0,rfl,yC _,al⟩
 clear al y
 obtain ⟨i,rfl,hi,ag⟩:=hrel
 obtain ⟨d,v,vs,HS,ad,m⟩:∃d v vs,Hid (N3 w Cb Rb vs ss d v wr)/\Hid (Js (λ_=>Is x.farms) Ls (UW x) x.rots o i d vs)/\Hid (vs.length=((x.rots.drop i).flatMap F8).length+(x.rights.length*5+x.duties.length)/\(∀v∈vs, -1073741824<=v.n/\v.n<=1073741824)/\d.rights.length<=100000*i/\d.hours=hrs/\d.duties.length=0):=by
  have h:=ag.o
  rw[HI.o] at h
  obtain ⟨d,v,vs,h1,h2,h3⟩:=h
  exact ⟨d,v,vs,yb h1,yb h2,yb h3⟩
 clear ag
 by_cases b5:i < n
 ·have X:i < x.rots.length:=by rw[<-H.o];exact b5
  have b8:(i:Int) < (n:Int):=by omega
  have B:Hid (i < x.rots.length):=yb X
  obtain ⟨b,oo,ct,ba,a6,am,ah,a8⟩:=ak.o.2.2 i X
  obtain rfl:a=some (aV b oo):=ba
  have ao:Hid (wr.rangeAt b (oo+i*23) ct):=yb (A8 ah (HS.o.cu.bel.block _ (J.o.n b a6).1 (J.o.n b a6).2))
  have O:=yb am
  obtain ⟨D,hD⟩:∃D,x.rots[i]'X=D:=⟨_,rfl⟩
  rw[hD] at a8
  have HD:Hid (x.rots[i]'B.o=D):=yb hD
  have b4:=yb a8
  obtain ⟨-, -,c0,c1,c2,G,g0,g1,g2, -⟩:=a8
  obtain ⟨a0,p0,rfl, -⟩:=g0.cells
  obtain ⟨a1,p1,rfl, -⟩:=g1.cells
  obtain ⟨a2,p2,rfl, -⟩:=g2.cells
  clear g0 g1 g2
  have bk:=yb G
  have aj:Hid (∀v∈ct,v.oneCell'=true):=yb (by rw[G];simp[B6,AA.v,Value.oneCell'])
  clear ah a6 am hD G
  go_upto_region 35 with (first
   |(with_reducible refine yj rfl 56 _ rfl b (oo+i*23) (by kernel_rfl) ct _ ao.o jt (by kernel_rfl) (by rw[O.o];kernel_rfl) ?_)
   |(with_reducible refine yt rfl 56 _ _ rfl wr.heap.size ct.toArray (by kernel_rfl) (by kernel_rfl) 56 _ (World.alloc_heap_new _ _) (by rw[yA,O.o];kernel_rfl) (by simp[O.o]) (yL aj.o) ?_;rw[World.setRow_alloc_new]))
  have t:=yb (Iw.mk' HS.o ct 56)
  generalize bh:wr.heap.size=bx at t |-
  clear bh HS ao
  generalize wr.alloc _=wr at t |-
  obtain ⟨v0,v1,v2,r,bd,ap⟩:∃v0 v1 v2 r,vs=v0::v1::v2::r/\D.turns.length<=r.length:=by
   have h:=m.o.1
   have h2:=B.o
   rw[zy h2,HD.o,yY,yn] at h
   match vs,h with
   |a0::a1::a2::r,h=>exact ⟨_,_,_,_,rfl,by simp[F8] at h;omega⟩
   |[],h=>simp[F8] at h;omega
   |[_],h=>simp[F8] at h;omega
   |[_,_],h=>simp[F8] at h;omega
  subst bd
  have az:=yb ap
  clear ap
  obtain ⟨T,hT⟩:∃T:World->Prop,T=λV=>V.cell? (aV (w.heap.size+1) 7)=some (v 3)/\V.rangeAt w.heap.size 0 ss/\V.rangeAt bx 0 ct/\True:=⟨_,rfl⟩
  have HT:=yb hT
  have Y:Hid (∀V,V.heap[w.heap.size]?=some (.cells ss.toArray 49 (0,0))->V.heap[w.heap.size+1]?=some (.cells (Dc d v).toArray 31 (0,0))->V.heap[bx]?=some (.cells ct.toArray 56 (0,0))->T V):=yb (λV h0 h1 h2=>by
   rw[hT]
   have h3:=BV h1
   exact ⟨h3.2.2.2.2.2.2.2.1,Ae h0,Ae h2,trivial⟩)
  clear hT
  have F:=yb t.o.drew
  refine Cu (by kernel_rfl) T 8 [(0,154,pV (w.heap.size+1) 7),(1,155,v 3),(2,156,.agg ss.toArray),(3,157,.agg ct.toArray),(4,158,Lo Cb)] 4 (by kernel_rfl) (by kernel_rfl) (λ_ _ _ _ _ h=>h) (Y.o _ F.o.st.s F.o.st.b F.o.x) (by kernel_rfl) ?_ ?_
  ·simp only[Ct]
   refine ⟨?_,?_,?_,?_,?_,trivial⟩
   ·intro o C V A
    obtain rfl:=yf C
    rw[HT.o] at A
    obtain ⟨y0,y1,y2,y3⟩:=A
    go_simp
   ·intro o C V A
    obtain rfl:=yf C
    rw[HT.o] at A
    obtain ⟨y0,y1,y2,y3⟩:=A
    go_simp
   ·intro o C V A
    obtain rfl:=yf C
    rw[HT.o] at A
    exact C1 49 (.tmp 2) rfl w.heap.size 0 (by kernel_rfl) ss _ A.2.1 jq rfl be.o
   ·intro o C V A
    obtain rfl:=yf C
    rw[HT.o] at A
    exact C1 56 (.tmp 15) rfl bx 0 (by kernel_rfl) ct _ A.2.2.1 jt rfl (by rw[O.o];kernel_rfl)
   intro o C V A
   obtain rfl:=yf C
   rw[HT.o] at A
   obtain ⟨y0,y1,y2,y3⟩:=A
   go_simp
  generalize wr.drew=wr at F |-
  clear t
  have t:=F
  clear F
  simp only[Cs]
  refine Aq (i:=5) (by kernel_rfl) rfl rfl (λK M=>?_)
  go_simp
  have f:=t.o.st.cu
  have E:D∈x.rots:=by rw[<-HD.o];exact yR _
  have a7:∀b,N b->wr.heap[b]?=w.heap[b]?:=λb hb=>f.bel.block b (J.o.n b hb).1 (J.o.n b hb).2
  refine (Pu (J.o.v.same (λ_ h=>h) a7) (V4 a7 b4.o) (λb hb=>⟨yx (J.o.n b hb).1 f.bel.size,(J.o.n b hb).2⟩) v0 v1 v2 r f.cur f.ne ⟨yx f.lt.1 f.bel.size,yx f.lt.2 f.bel.size⟩ az.o m.o.2.1 (J.o.farms D E) (yG (J.o.slim.turns D E) (by omega))).mono ?_
  have av:Hid (D.turns.length<=100000):=yb (J.o.slim.turns D E)
  cases hq:Is x.farms D (v0::v1::v2::r) with
  |none=>
   have hr:o=none:=ad.o.bad B.o (by rw[HD.o];exact hq)
   rintro e w2 ⟨rfl,b0⟩
   exact E8 hr rfl (f.bel.trans (b0.mono f.bel.size))
  |some q=>
  obtain ⟨Q,S⟩:=q
  have ay:Hid (Is x.farms (x.rots[i]'B.o) (v0::v1::v2::r)=some (Q,S)):=yb (by rw[HD.o];exact hq)
  have Z:Hid (0 < Q.length/\Q.length=D.turns.length):=yb (Rn hq)
  obtain ⟨us,ax,aw, -⟩:=Yb _ _ _ _ _ hq
  have af:Hid (us.length=3+D.turns.length/\v0::v1::v2::r=us++S):=yb ⟨ax,aw⟩
  clear hq ax aw E a7
  rintro e w2 ⟨vg,rfl,p,R⟩
  have au:=yb (t.o.call (vs':=S) ⟨R.cur,f.bel.trans (R.bel.mono f.bel.size),f.ne,f.lt⟩ R.bel)
  obtain ⟨g,cap,rfl⟩:=MZ p Z.o.1
  have an:=yb p
  clear R f t p
  have t:=au
  clear au
  refine M.o _ _ (λ_=>Y.o _ t.o.st.s t.o.st.b t.o.x) ?_
  clear M K
  refine Aq (i:=6) (by kernel_rfl) rfl rfl (λK M=>?_)
  obtain ⟨va,vm,vk,bb⟩:=AR (t.o.st.own 3 (by decide))
  have ai:=yb (t.o.st.own 3 (by decide))
  refine Rj jc (.tmp 155) (.tmp 159) rfl 10 (by kernel_rfl) (by decide) (w.heap.size+2) (v 3) (EN d 3) (Lv d 3) (by kernel_rfl) ai.o (aV g 0) Q.length cap (Q.flatMap AZ) (by kernel_rfl) (I5 Q) (an.o.cells rfl) (X3 Q) (by have h:=m.o.2.2.1;have h2:=Z.o.2;have h3:=av.o;have:=aa.o;have:=B.o;show (d.rights.length+_)*128<=_;omega) (by have:=t.o.st.lt;omega) ?_
  intro v9 w9 p ab
  have z:=yb (t.o.st.app (d':=Ls d Q) (k:=3) (by decide) (x:=v9) (by simpa[EN,Lv,Pv,Rk,Ls] using p) ab (λj hj bg=>by
   match j,hj with
   |0,_=>exact ⟨rfl,rfl⟩
   |1,_=>exact ⟨rfl,rfl⟩
   |2,_=>exact ⟨rfl,rfl⟩
   |3,_=>exact absurd rfl bg
   |4,_=>exact ⟨rfl,rfl⟩))
  have b7:Hid (w9.heap[bx]?=some (.cells ct.toArray 56 (0,0))):=yb ((ab.block bx (yd.1 t.o.x).1 (λe=>t.o.ne 3 (by decide) e.symm)).trans t.o.x)
  obtain ⟨za,zm,zk,rfl⟩:=AR p
  clear p ab t ai an bb
  have aq:Hid (T w9):=yb (Y.o _ z.o.s z.o.b b7.o)
  refine M.o _ _ (λ_=>aq.o) ?_
  clear M K
  refine BN (T:=T) (k:=8) (by kernel_rfl) (λ_ _ _ _ _ h=>h) (aq.o) [(7,161,pV (w.heap.size+1) 7)] 1 _ _ (by kernel_rfl) ?_ ?_
  ·simp only[Ct]
   refine ⟨?_,trivial⟩
   intro o C V A
   obtain rfl:=yf C
   rw[HT.o] at A
   obtain ⟨y0,y1,y2,y3⟩:=A
   go_simp
  simp only[Cs]
  refine Aq (i:=8) (by kernel_rfl) rfl rfl (λK M=>?_)
  have ac:=z.o.b
  have c9:=(BV ac).2.2.2.2.2.2.2.1
  have f9:w9.frozen? (aV (w.heap.size+1) 7)=false:=by simp[World.frozen?,ac]
  go_simp
  refine M.o _ _ (by intro h;cases h) ?_
  clear M K c9 f9 ac
  refine AP (by kernel_rfl) ?_
  have U:=yb (z.o.set (k:=7) (x:=.slice za zm zk) rfl)
  clear z
  have z:=U
  clear U
  generalize w9.setCell _ _=wr at z |-
  have b3:Hid (I (i+1) wr):=yb (by
   rw[HI.o]
   exact ⟨Ls d Q,_,S,z.o,ad.o.step B.o ay.o,by
    have h:=m.o.1
    have h2:=yN List.length af.o.2
    rw[zy B.o,HD.o,yY,yn] at h
    rw[yn,af.o.1] at h2
    simp[F8] at h h2 |-
    omega,λv hv=>m.o.2.1 v (by rw[af.o.2];exact List.mem_append_right _ hv),by have h:=m.o.2.2.1;have h2:=Z.o.2;have h3:=av.o;simp[Ls];omega,m.o.2.2.2⟩)
  go_wp2
  exact ⟨⟨i+1,by push_cast;rfl,by omega,b3⟩,by simp[intOf];omega⟩
 obtain rfl:i=n:=by omega
 have b8:decide ((i:Int) < (i:Int))=false:=by simp
 have HE:Hid (o=(UW x) d vs):=yb (by have h:=ad.o;rw[H.o] at h;exact h.done)
 go_wp2
 refine M.o _ _ ?_
 refine I7 (P:=λl=>Code.wp Tryz.prog _ _ ⟨l,[]⟩ _) rfl ?_
 exact aY J.o ⟨rfl,rfl,rfl,rfl⟩ HS.o HE.o m.o.2.2.2 b9.o ⟨by have h:=m.o.1;rw[H.o,xE] at h;simpa using h,by have h:=m.o.2.2.1;have:=H.o;have:=aa.o;omega⟩
set_option linter.unusedVariables false
theorem bA{D:BG}{ct b:LV}{bx:Nat}(h:ct=.string D.name::(B6 D.on++(.bool D.river::(b++B6 D.crop)))):∀V:World,V.heap[bx]?=some (.cells ct.toArray 125 (0,0))->V.cell? ⟨bx,0,none⟩=some (.string D.name)/\V.cell? ⟨bx,2,none⟩=some (.int .i64 D.on.n):=by
 subst h
 intro V a
 exact ⟨by simp[World.cell?,a],by simp[World.cell?,a,B6]⟩
theorem SM{D:BG}{ct:LV}{W:World}{bx:Nat}{t:TypeId}{a b c d e f:Value}(h:ct=.string D.name::(B6 D.on++(.bool D.river::([a,b,c,d,e,f]++B6 D.crop))))(g:W.heap[bx]?=some (.cells ct.toArray t (0,0))):W.cell? ⟨bx,3,none⟩=some (.bool D.river)/\W.cell? ⟨bx,11,none⟩=some (.int .i64 D.crop.n):=by
 subst h
 exact ⟨by simp[World.cell?,g,B6],by simp[World.cell?,g,B6]⟩
theorem bB{w W:World}{Cb Rb:Nat}{N:NP}{L:BQ}{ss:LV}{x:AM}{o:Option (Bk × List Rt)}{u:Nat->Value}{vs:List Rt}{d:Bk}{v:Nat->Value}(hc:BC w Cb N L ss x)(hu:UB w Cb u)(hS:N3 w Cb Rb vs ss d v W)(ho:o=UY x d vs){hrs:Int}(hd:(d.hours=hrs/\d.duties.length=0/\d.rights.length=0)/\d.farms.length=0)(hb: -4611686018427387904<=hrs/\hrs<=4611686018427387904)(hl:vs.length=x.farms.length+((x.rots.flatMap F8).length+(x.rights.length*5+x.duties.length)))(aq:∀v∈vs, -1073741824<=v.n/\v.n<=1073741824):BT 7 o w Cb Rb u W:=by
 unfold BT
 obtain ⟨⟨a,n,c⟩,hL⟩:∃h:AA,L.farms=h:=⟨_,rfl⟩
 have O:=(hc.cells hS).2.2.2.2.1
 have ay:Hid (Bg N w 12 (K5 N w) ⟨a,n,c⟩ x.farms):=yb (by have h:=hc.v.farms;rw[hL] at h;exact h)
 rw[hL] at O
 unfold AA.v at O
 dsimp only at O
 have ac:Hid (n=x.farms.length):=yb ay.o.1
 have an:Hid (x.farms.length<=100000):=yb hc.slim.farms
 have bi:n<=140737488355328:=by have:=ac.o;have:=an.o;omega
 obtain ⟨I,hI⟩:∃I:Nat->World->Prop,I=λi W=>∃d v vs,N3 w Cb Rb vs ss d v W/\Js NF Io (UX x) x.farms o i d vs/\vs.length=(x.farms.drop i).length+((x.rots.flatMap F8).length+(x.rights.length*5+x.duties.length))/\(∀v∈vs, -1073741824<=v.n/\v.n<=1073741824)/\d.farms.length=i/\d.hours=hrs/\d.duties.length=0/\d.rights.length=0:=⟨_,rfl⟩
 have az:Hid (I 0 W):=yb (by rw[hI];exact ⟨d,v,vs,hS,Js.start ho,by rw[xA];exact hl,aq,hd.2,hd.1⟩)
 have HI:=yb hI;have HC:=yb hc;have HU:=yb hu
 have bk:=yb hl
 have ba:=yb hb
 have bj:=yb hd
 have bh:=yb aq
 rw[I6,hu.u1,hu.u2,hu.u4,hu.u5]
 clear hc hS ho hL hI hu hl hb hd aq
 refine Ai λK f=>?_
 go_wp2
 go_loopw [117] (λiv wr=>∃i:Nat,iv=iV i/\i<=n/\Hid (I i wr)) (λiv _=>n - (intOf iv).toNat)
 case atStart=>exact ⟨0,rfl,yC _,az⟩
 clear az O
 obtain ⟨i,rfl,hi,av⟩:=hrel
 obtain ⟨d,v,vs,HS,a1,t⟩:∃d v vs,Hid (N3 w Cb Rb vs ss d v wr)/\Hid (Js NF Io (UX x) x.farms o i d vs)/\Hid (vs.length=(x.farms.drop i).length+((x.rots.flatMap F8).length+(x.rights.length*5+x.duties.length))/\(∀v∈vs, -1073741824<=v.n/\v.n<=1073741824)/\d.farms.length=i/\d.hours=hrs/\d.duties.length=0/\d.rights.length=0):=by
  have h:=av.o
  rw[HI.o] at h
  obtain ⟨d,v,vs,h1,h2,h3⟩:=h
  exact ⟨d,v,vs,yb h1,yb h2,yb h3⟩
 clear av
 by_cases b7:i < n
 ·have ag:i < x.farms.length:=by rw[<-ac.o];exact b7
  have b9:(i:Int) < (n:Int):=by omega
  have J:Hid (i < x.farms.length):=yb ag
  obtain ⟨b,oo,ct,bb,aj,B,aw,ak⟩:=ay.o.2.2 i ag
  obtain rfl:a=some (aV b oo):=bb
  have b3:Hid (wr.rangeAt b (oo+i*12) ct):=yb (A8 aw (HS.o.cu.bel.block _ (HC.o.n b aj).1 (HC.o.n b aj).2))
  have aa:=yb B
  obtain ⟨D,hD⟩:∃D,x.farms[i]'ag=D:=⟨_,rfl⟩
  rw[hD] at ak
  have HD:Hid (x.farms[i]'J.o=D):=yb hD
  have ax:=yb ak
  obtain ⟨-, -, -,ce,a7,b5⟩:=ak
  obtain ⟨ae,pe,rfl, -⟩:=b5.cells
  clear b5
  have A:=yb a7
  have af:Hid (∀v∈ct,v.oneCell'=true):=yb (by rw[a7];simp[B6,AA.v,Value.oneCell'])
  clear aw aj B hD a7
  go_upto_region 26 with (first
   |(with_reducible refine yj rfl 125 _ rfl b (oo+i*12) (by kernel_rfl) ct _ b3.o qZ (by kernel_rfl) (by rw[aa.o];kernel_rfl) ?_)
   |(with_reducible refine yt rfl 125 _ _ rfl wr.heap.size ct.toArray (by kernel_rfl) (by kernel_rfl) 125 _ (World.alloc_heap_new _ _) (by rw[yA,aa.o];kernel_rfl) (by simp[aa.o]) (yL af.o) ?_;rw[World.setRow_alloc_new]))
  have m:=yb (Iw.mk' HS.o ct 125)
  generalize bg:wr.heap.size=bx at m |-
  clear bg HS b3
  generalize wr.alloc _=wr at m |-
  obtain ⟨y,r,bd⟩:∃y r,vs=y::r:=by
   have h:=t.o.1
   cases vs with
   |nil=>simp at h;omega
   |cons a b=>exact ⟨a,b,rfl⟩
  subst bd
  have F:=yb (bA (bx:=bx) A.o)
  obtain ⟨z,ah⟩:∃z,z=D.name:=⟨_,rfl⟩
  obtain ⟨U,ap⟩:∃U,U=D.on.n:=⟨_,rfl⟩
  rw[<-ah,<-ap] at F
  have a2:=yb (And.intro ah ap)
  clear ah ap
  try simp only[Act.put]
  go_cut [13] from 118 to 146 (λp wx=>∃bz:Nat,p=pV bz 0/\Hid (bx≠bz/\y.d<=1)/\Hid (Iw w Cb Rb r ss (Dc d v) d v bx ct 125 wx)/\Hid (Iw w Cb Rb r ss (Dc d v) d v bz [.string z,iV U,iV y.n,iV (-1)] 84 wx))
  case first=>
   have ad:=yb m.o.drew
   refine Cu (by kernel_rfl) (λV=>V.cell? (aV bx 0)=some (.string z)/\V.cell? (aV bx 2)=some (iV U)) 9 [(0,121,pV bx 0),(1,122,.string z),(2,123,pV bx 1),(3,124,pV bx 2),(4,125,iV U),(5,126,Lo Cb)] 4 (by kernel_rfl) (by kernel_rfl) (λ_ _ _ _ _ h=>h) (F.o _ ad.o.x) (by kernel_rfl) ?_ ?_
   ·simp only[Ct]
    refine ⟨?_,?_,?_,?_,?_,?_,trivial⟩
    all_goals
     intro o ho V hV
     obtain rfl:=yf ho
     obtain ⟨y0,y1⟩:=hV
     go_simp
   generalize wr.drew=wr at ad |-
   have m:=ad
   clear ad
   simp only[Cs]
   refine MU (i:=6) (j:=8) (by kernel_rfl) rfl rfl (λK f=>?_) (λK f=>?_)
   ·rw[yz (by kernel_rfl)]
    go_simp
    rcases (by omega:y.d<=1\/1 < y.d) with T|T
    rotate_left 1
    ·refine (m.o.st.cu.no T).mono ?_
     rintro e w2 ⟨rfl,M⟩
     exact E8 (a1.o.bad J.o (by rw[HD.o];simp[NF,BE,Int.not_le.2 T])) rfl M
    refine (m.o.st.cu.yes T).mono ?_
    rintro e w2 ⟨rfl,Z,M⟩
    have s:=yb (m.o.call Z M)
    clear Z M m
    refine f.o _ _ (λ_=>F.o _ s.o.x) ?_
    clear f K
    refine MU (i:=7) (j:=8) (by kernel_rfl) rfl rfl (λK f=>?_) (λK f=>?_)
    all_goals
     rw[yz (by kernel_rfl)]
     go_simp
    ·refine f.o _ _ (λ_=>F.o _ s.o.x) ?_
     clear f K
     refine Aq (i:=8) (by kernel_rfl) rfl rfl (λK f=>?_)
     go_simp
     have Q:=yb (s.o.up ((yg _ _).alloc (yi _) (.cells #[.string ⟨#[]⟩,iV 0,iV 0,iV 0] 84)))
     refine f.o _ _ (λ_=>F.o _ Q.o.x) ?_
     clear f K
     refine Aq (i:=9) (by kernel_rfl) rfl rfl (λK f=>?_)
     refine wp_store_row 84 (.tmp 13) (.tmp 128) rfl w2.heap.size #[.string z,iV U,iV y.n,iV (-1)] (by kernel_rfl) (by kernel_rfl) 84 _ (World.alloc_heap_new _ _) (by kernel_rfl) (by kernel_rfl) (by kernel_rfl) ?_
     rw[World.setRow_alloc_new]
     have HX:=yb (s.o.up ((yg _ _).alloc (yi _) (.cells #[.string z,iV U,iV y.n,iV (-1)] 84)))
     have Y:=yb (Iw.mk' s.o.st [.string z,iV U,iV y.n,iV (-1)] 84)
     have X:Hid (bx≠w2.heap.size):=yb (Nat.ne_of_lt (yd.1 s.o.x).1)
     refine f.o _ _ (by intro h;cases h) ?_
     clear f K
     refine AP (a:=⟨_,_⟩) (by kernel_rfl) ?_
     simp only[Exit.then]
     go_step
     go_meet
     exact ⟨w2.heap.size,rfl,yb ⟨X.o,T⟩,HX,Y⟩
    have Q:=yb (s.o.up ((yg _ _).alloc (yi _) (.cells #[.string ⟨#[]⟩,iV 0,iV 0,iV 0] 84)))
    refine f.o _ _ (λ_=>F.o _ Q.o.x) ?_
    clear f K
    refine Aq (i:=7) (by kernel_rfl) rfl rfl (λK f=>?_)
    go_simp
    refine f.o _ _ (λ_=>F.o _ Q.o.x) ?_
    clear f K
    refine Aq (i:=9) (by kernel_rfl) rfl rfl (λK f=>?_)
    refine wp_store_row 84 (.tmp 13) (.tmp 128) rfl w2.heap.size #[.string z,iV U,iV y.n,iV (-1)] (by kernel_rfl) (by kernel_rfl) 84 _ (World.alloc_heap_new _ _) (by kernel_rfl) (by kernel_rfl) (by kernel_rfl) ?_
    rw[World.setRow_alloc_new]
    have HX:=yb (s.o.up ((yg _ _).alloc (yi _) (.cells #[.string z,iV U,iV y.n,iV (-1)] 84)))
    have Y:=yb (Iw.mk' s.o.st [.string z,iV U,iV y.n,iV (-1)] 84)
    have X:Hid (bx≠w2.heap.size):=yb (Nat.ne_of_lt (yd.1 s.o.x).1)
    refine f.o _ _ (by intro h;cases h) ?_
    clear f K
    refine AP (a:=⟨_,_⟩) (by kernel_rfl) ?_
    simp only[Exit.then]
    go_step
    go_meet
    exact ⟨w2.heap.size,rfl,yb ⟨X.o,T⟩,HX,Y⟩
   rw[yz (by kernel_rfl)]
   go_simp
   have Q:=yb (m.o.up ((yg _ _).alloc (yi _) (.cells #[.string ⟨#[]⟩,iV 0,iV 0,iV 0] 84)))
   have HZ:=yb (Iw.mk' m.o.st [.string ⟨#[]⟩,iV 0,iV 0,iV 0] 84)
   have X:Hid (bx≠wr.heap.size):=yb (Nat.ne_of_lt (yd.1 m.o.x).1)
   refine f.o _ _ (λ_=>F.o _ Q.o.x) ?_
   clear f K m
   generalize wr.heap.size=bz at HZ X |-
   generalize wr.alloc _=wr at HZ Q |-
   have m:=Q
   clear Q
   refine Aq (i:=6) (by kernel_rfl) rfl rfl (λK f=>?_)
   go_simp
   rcases (by omega:y.d<=1\/1 < y.d) with T|T
   rotate_left 1
   ·refine (m.o.st.cu.no T).mono ?_
    rintro e w2 ⟨rfl,M⟩
    exact E8 (a1.o.bad J.o (by rw[HD.o];simp[NF,BE,Int.not_le.2 T])) rfl M
   refine (m.o.st.cu.yes T).mono ?_
   rintro e w2 ⟨rfl,Z,M⟩
   have s:=yb (m.o.call Z M)
   have ab:=yb (HZ.o.call Z M)
   clear Z M m HZ
   refine f.o _ _ (λ_=>F.o _ s.o.x) ?_
   clear f K
   refine Aq (i:=7) (by kernel_rfl) rfl rfl (λK f=>?_)
   go_simp
   refine f.o _ _ (λ_=>F.o _ s.o.x) ?_
   clear f K
   refine Aq (i:=9) (by kernel_rfl) rfl rfl (λK f=>?_)
   refine wp_store_row 84 (.tmp 13) (.tmp 128) rfl bz #[.string z,iV U,iV y.n,iV (-1)] (by kernel_rfl) (by kernel_rfl) 84 _ ab.o.x (by kernel_rfl) (by kernel_rfl) (by kernel_rfl) ?_
   have HX:=yb (s.o.apart ab.o X.o (Rl _ _ #[.string z,iV U,iV y.n,iV (-1)]))
   have Y:=yb (ab.o.only (ct':=[.string z,iV U,iV y.n,iV (-1)]) (Rl _ _ #[.string z,iV U,iV y.n,iV (-1)]) (D3 ab.o.x))
   refine f.o _ _ (by intro h;cases h) ?_
   clear f K
   refine AP (a:=⟨_,_⟩) (by kernel_rfl) ?_
   simp only[Exit.then]
   go_step
   go_meet
   exact ⟨bz,rfl,yb ⟨X.o,T⟩,HX,Y⟩
  obtain ⟨bz,rfl,b0,HX,Y⟩:=hcut
  clear m F
  rw[a2.o.1,a2.o.2] at Y
  have HV:Hid (y.d<=1):=yb b0.o.2
  clear b0 a2
  generalize wc=wr at HX Y |-
  obtain ⟨y3,am⟩:=SM A.o HX.o.x
  obtain ⟨z,on,rv,ar,H⟩:=D
  dsimp only at A HD ax y3 am Y
  clear A ax af aa
  cases rv
  ·go_upto_region 28 with fail
   obtain ⟨z0,z1,z2,z3⟩:=Vj Y.o.x
   have zf:∀k,wr.frozen? (aV bz k)=false:=λk=>by simp[World.frozen?,Y.o.x]
   go_upto_region 29 with fail
   have m:=yb (Y.o.put 3 (iV H.n))
   clear HX Y z0 z1 z2 z3 zf y3 am
   generalize wr.setCell _ _=wr at m |-
   simp only[zY,zX] at m
   obtain ⟨z0,z1,z2,z3⟩:=Vj m.o.x
   obtain ⟨q1,b8⟩:∃q,decide (0 < y.n)=q:=⟨_,rfl⟩
   have b4:=yb b8
   have be:=yb (λw=>Ei 190 w)
   have a2:=yb (λw=>Fa 190 w)
   cases q1
   ·go_wp2_with (go_at_call 29;with_reducible refine (a2.o _).mono ?_;rintro e1 w3 ⟨rfl,rfl⟩)
    have h0:¬ 0 < y.n:=by have h:=b4.o;simpa using h
    exact E8 (a1.o.bad J.o (by rw[HD.o];simp[NF,BE,HV.o,h0])) rfl m.o.st.cu.bel
   go_upto_region 30 with (go_at_call 29;with_reducible refine (be.o _).mono ?_;rintro e1 w3 ⟨rfl,hw⟩;obtain rfl:wr=w3:=hw.symm)
   clear z0 z1 z2 z3
   generalize bz=bx at*
   obtain ⟨ct,B⟩:∃ct:LV,ct=[.string z,iV on.n,iV y.n,iV H.n]:=⟨_,rfl⟩
   rw[<-B] at m
   have A:=yb B
   clear B
   refine qt ?_
   refine yZ rfl λK f=>?_
   go_simp
   refine f _ _ ?_
   clear f K
   refine yZ rfl λK f=>?_
   have E:=m.o.st.b
   have c9:=(BV E).2.2.2.2.2.1
   clear E
   go_simp
   refine f _ _ ?_
   clear f K
   refine yj rfl 84 (.tmp 13) rfl bx 0 (by kernel_rfl) ct _ (Ae m.o.x) jB rfl (by rw[A.o];kernel_rfl) ?_
   have B:=A.o
   subst B
   refine yZ rfl λK f=>?_
   obtain ⟨w3,R⟩:∃w3,w3=wr.alloc (.cells #[.string z,iV on.n,iV y.n,iV H.n] 84):=⟨_,rfl⟩
   have s:=yb (m.o.up ((yg _ _).alloc (yi _) (.cells #[.string z,iV on.n,iV y.n,iV H.n] 84)))
   have HG:Hid (w3.heap[wr.heap.size]?=some (.cells #[.string z,iV on.n,iV y.n,iV H.n] 84 (0,0))):=yb (by rw[R];exact World.alloc_heap_new _ _)
   rw[<-R] at s
   refine E5 25 84 _ [[.string z,iV on.n,iV y.n,iV H.n]] 1 rfl [.string z,iV on.n,iV y.n,iV H.n] (by simp) rfl (by kernel_rfl) 4 j8 (by kernel_rfl) (by simp) (by omega) (by omega) ?_
   rw[show wr.alloc _=w3 from R.symm]
   clear m R
   have m:=s
   clear s
   refine f _ _ ?_
   clear f K
   generalize wr.heap.size=g at HG |-
   refine yZ rfl λK f=>?_
   obtain ⟨va,vm,vk,al⟩:=AR (m.o.st.own 1 (by decide))
   have a6:=yb (m.o.st.own 1 (by decide))
   refine Dn j8 (.tmp 141) (.tmp 143) rfl 4 (by kernel_rfl) (by decide) (w.heap.size+2) (v 1) (EN d 1) (Lv d 1) (by kernel_rfl) a6.o g 1 (IS ⟨z,on.n,y.n,H.n⟩) (by kernel_rfl) HG.o rfl (by simp[Value.oneCell',JS,Jr,AZ,IS,Ft]) (by have h:=t.o.2.2.1;have:=an.o;have:=J.o;show (d.farms.length+1)*128<=_;omega) (by have:=m.o.st.lt;omega) ?_
   intro v9 w9 G a8 au
   have C:=yb (m.o.st.app (d':=Io d ⟨z,on.n,y.n,H.n⟩) (k:=1) (by decide) (x:=v9) (by simpa[EN,Lv,Pv,Rk,Io] using G) a8 (λj hj ao=>by
    match j,hj with
    |0,_=>exact ⟨rfl,rfl⟩
    |1,_=>exact absurd rfl ao
    |2,_=>exact ⟨rfl,rfl⟩
    |3,_=>exact ⟨rfl,rfl⟩
    |4,_=>exact ⟨rfl,rfl⟩))
   obtain ⟨za,zm,zk,rfl⟩:=AR G
   clear G a8 au m a6 HG al
   refine f _ _ ?_
   clear f K
   refine yZ rfl λK f=>?_
   go_simp
   refine f _ _ ?_
   clear f K
   refine yZ rfl λK f=>?_
   have E:=C.o.b
   have c9:=(BV E).2.2.2.2.2.1
   have f9:w9.frozen? (aV (w.heap.size+1) 5)=false:=by simp[World.frozen?,E]
   go_simp
   refine f _ _ ?_
   clear f K c9 f9 E
   refine qQ ?_
   have S:=yb (C.o.set (k:=5) (x:=.slice za zm zk) rfl)
   clear C
   have C:=S
   clear S
   generalize w9.setCell _ _=wr at C |-
   have ai:Hid (I (i+1) wr):=yb (by
    rw[HI.o]
    exact ⟨Io d ⟨z,on.n,y.n,H.n⟩,_,r,C.o,a1.o.step J.o (by rw[HD.o];have h:=b4.o;simp at h;simp[NF,BE,HV.o,h]),by have h:=t.o.1;have h2:=J.o;simp at h |-;omega,λv T=>t.o.2.1 v (by simp[T]),by have h:=t.o.2.2.1;simp[Io];omega,t.o.2.2.2⟩)
   go_wp2
   exact ⟨⟨i+1,by push_cast;rfl,by omega,ai⟩,by simp[intOf];omega⟩
  go_upto_region 30 with fail
  have m:=Y
  clear HX Y y3 am
  generalize bz=bx at*
  obtain ⟨ct,B⟩:∃ct:LV,ct=[.string z,iV on.n,iV y.n,iV (-1)]:=⟨_,rfl⟩
  rw[<-B] at m
  have A:=yb B
  clear B
  refine qt ?_
  refine yZ rfl λK f=>?_
  go_simp
  refine f _ _ ?_
  clear f K
  refine yZ rfl λK f=>?_
  have E:=m.o.st.b
  have c9:=(BV E).2.2.2.2.2.1
  clear E
  go_simp
  refine f _ _ ?_
  clear f K
  refine yj rfl 84 (.tmp 13) rfl bx 0 (by kernel_rfl) ct _ (Ae m.o.x) jB rfl (by rw[A.o];kernel_rfl) ?_
  have B:=A.o
  subst B
  refine yZ rfl λK f=>?_
  obtain ⟨w3,R⟩:∃w3,w3=wr.alloc (.cells #[.string z,iV on.n,iV y.n,iV (-1)] 84):=⟨_,rfl⟩
  have s:=yb (m.o.up ((yg _ _).alloc (yi _) (.cells #[.string z,iV on.n,iV y.n,iV (-1)] 84)))
  have HG:Hid (w3.heap[wr.heap.size]?=some (.cells #[.string z,iV on.n,iV y.n,iV (-1)] 84 (0,0))):=yb (by rw[R];exact World.alloc_heap_new _ _)
  rw[<-R] at s
  refine E5 25 84 _ [[.string z,iV on.n,iV y.n,iV (-1)]] 1 rfl [.string z,iV on.n,iV y.n,iV (-1)] (by simp) rfl (by kernel_rfl) 4 j8 (by kernel_rfl) (by simp) (by omega) (by omega) ?_
  rw[show wr.alloc _=w3 from R.symm]
  clear m R
  have m:=s
  clear s
  refine f _ _ ?_
  clear f K
  generalize wr.heap.size=g at HG |-
  refine yZ rfl λK f=>?_
  obtain ⟨va,vm,vk,al⟩:=AR (m.o.st.own 1 (by decide))
  have a6:=yb (m.o.st.own 1 (by decide))
  refine Dn j8 (.tmp 141) (.tmp 143) rfl 4 (by kernel_rfl) (by decide) (w.heap.size+2) (v 1) (EN d 1) (Lv d 1) (by kernel_rfl) a6.o g 1 (IS ⟨z,on.n,y.n,(-1)⟩) (by kernel_rfl) HG.o rfl (by simp[Value.oneCell',JS,Jr,AZ,IS,Ft]) (by have h:=t.o.2.2.1;have:=an.o;have:=J.o;show (d.farms.length+1)*128<=_;omega) (by have:=m.o.st.lt;omega) ?_
  intro v9 w9 G a8 au
  have C:=yb (m.o.st.app (d':=Io d ⟨z,on.n,y.n,(-1)⟩) (k:=1) (by decide) (x:=v9) (by simpa[EN,Lv,Pv,Rk,Io] using G) a8 (λj hj ao=>by
   match j,hj with
   |0,_=>exact ⟨rfl,rfl⟩
   |1,_=>exact absurd rfl ao
   |2,_=>exact ⟨rfl,rfl⟩
   |3,_=>exact ⟨rfl,rfl⟩
   |4,_=>exact ⟨rfl,rfl⟩))
  obtain ⟨za,zm,zk,rfl⟩:=AR G
  clear G a8 au m a6 HG al
  refine f _ _ ?_
  clear f K
  refine yZ rfl λK f=>?_
  go_simp
  refine f _ _ ?_
  clear f K
  refine yZ rfl λK f=>?_
  have E:=C.o.b
  have c9:=(BV E).2.2.2.2.2.1
  have f9:w9.frozen? (aV (w.heap.size+1) 5)=false:=by simp[World.frozen?,E]
  go_simp
  refine f _ _ ?_
  clear f K c9 f9 E
  refine qQ ?_
  have S:=yb (C.o.set (k:=5) (x:=.slice za zm zk) rfl)
  clear C
  have C:=S
  clear S
  generalize w9.setCell _ _=wr at C |-
  have ai:Hid (I (i+1) wr):=yb (by
   rw[HI.o]
   exact ⟨Io d ⟨z,on.n,y.n,(-1)⟩,_,r,C.o,a1.o.step J.o (by rw[HD.o];simp[NF,BE,HV.o]),by have h:=t.o.1;have h2:=J.o;simp at h |-;omega,λv T=>t.o.2.1 v (by simp[T]),by have h:=t.o.2.2.1;simp[Io];omega,t.o.2.2.2⟩)
  go_wp2
  exact ⟨⟨i+1,by push_cast;rfl,by omega,ai⟩,by simp[intOf];omega⟩
 obtain rfl:i=n:=by omega
 have b9:decide ((i:Int) < (i:Int))=false:=by simp
 have HE:Hid (o=(UX x) d vs):=yb (by have h:=a1.o;rw[ac.o] at h;exact h.done)
 go_wp2
 refine f.o _ _ ?_
 refine I7 (P:=λl=>Code.wp Tryz.prog _ _ ⟨l,[]⟩ _) rfl ?_
 exact aZ HC.o ⟨rfl,rfl,rfl,rfl⟩ HS.o HE.o t.o.2.2.2 ba.o (by have h:=t.o.1;rw[ac.o,xE] at h;simpa using h) t.o.2.1
set_option linter.unusedVariables false
theorem ZX{α:Type}{l:List α}(h:8<=l.length):∃a b e v3 v4 v5 d c r,l=a::b::e::v3::v4::v5::d::c::r:=by
 match l,h with
 |a0::a1::a2::a3::a4::a5::a6::a7::r,_=>exact ⟨_,_,_,_,_,_,_,_,_,rfl⟩
theorem V6{D:AS}{ct:LV}{W:World}{bx:Nat}{t:TypeId}{c:LV}(h:ct=.string D.name::(B6 D.frm++c))(a:W.heap[bx]?=some (.cells ct.toArray t (0,0))):W.cell? ⟨bx,0,none⟩=some (.string D.name)/\W.cell? ⟨bx,2,none⟩=some (.int .i64 D.frm.n):=by
 subst h
 exact ⟨by simp[World.cell?,a,B6],by simp[World.cell?,a,B6]⟩
theorem ZY(i:Nat)(x:AS)(a b c v3 v4 v5 f e:Rt)(r:List Rt):Sq i x (a::b::c::v3::v4::v5::f::e::r)=if a.d<=1/\b.d<=1/\c.d<=1/\v3.d<=1/\v4.d<=1/\v5.d<=1 then some (⟨x.name,if i=0 then -1 else x.frm.n,a.n,b.n,c.n,v3.n,v4.n,v5.n,f,e⟩,r) else none:=by
 unfold Sq
 by_cases h0:a.d<=1<;>by_cases h1:b.d<=1<;>by_cases h2:c.d<=1<;>by_cases h3:v3.d<=1<;>by_cases h:v4.d<=1<;>by_cases g:v5.d<=1<;>simp[BE,TA,h0,h1,h2,h3,h,g]
theorem bC{w W:World}{Cb Rb:Nat}{N:NP}{L:BQ}{ss:LV}{x:AM}{o:Option (Bk × List Rt)}{u:Nat->Value}{vs:List Rt}{d:Bk}{v:Nat->Value}(hc:BC w Cb N L ss x)(S:UB w Cb u)(hS:N3 w Cb Rb vs ss d v W)(ho:o=UZ x d vs){hrs:Int}(hd:((d.hours=hrs/\d.duties.length=0/\d.rights.length=0)/\d.farms.length=0)/\d.reaches.length=0)(hb: -4611686018427387904<=hrs/\hrs<=4611686018427387904)(hl:vs.length=x.reaches.length*8+(x.farms.length+((x.rots.flatMap F8).length+(x.rights.length*5+x.duties.length))))(ad:∀v∈vs, -1073741824<=v.n/\v.n<=1073741824):BT 6 o w Cb Rb u W:=by
 unfold BT
 obtain ⟨⟨a,n,c⟩,hL⟩:∃h:AA,L.reaches=h:=⟨_,rfl⟩
 have z:=(hc.cells hS).2.2.2.1
 have ai:Hid (Bg N w 51 (Hk N w) ⟨a,n,c⟩ x.reaches):=yb (by have h:=hc.v.reaches;rw[hL] at h;exact h)
 rw[hL] at z
 unfold AA.v at z
 dsimp only at z
 have U:Hid (n=x.reaches.length):=yb ai.o.1
 have am:Hid (x.reaches.length<=100000):=yb hc.slim.reaches
 have b7:n<=140737488355328:=by have:=U.o;have:=am.o;omega
 obtain ⟨I,hI⟩:∃I:Nat->World->Prop,I=λi W=>∃d v vs,N3 w Cb Rb vs ss d v W/\Js Sq Lr (UY x) x.reaches o i d vs/\vs.length=(x.reaches.drop i).length*8+(x.farms.length+((x.rots.flatMap F8).length+(x.rights.length*5+x.duties.length)))/\(∀v∈vs, -1073741824<=v.n/\v.n<=1073741824)/\d.reaches.length=i/\(d.hours=hrs/\d.duties.length=0/\d.rights.length=0)/\d.farms.length=0:=⟨_,rfl⟩
 have aj:Hid (I 0 W):=yb (by rw[hI];exact ⟨d,v,vs,hS,Js.start ho,by rw[xA];exact hl,ad,hd.2,hd.1⟩)
 have HI:=yb hI;have HC:=yb hc;have HU:=yb S
 have b9:=yb hl
 have aw:=yb hb
 have b8:=yb hd
 have b5:=yb ad
 rw[I6,S.u1,S.u2,S.u4,S.u5]
 clear hc hS ho hL hI S hl hb hd ad
 refine Ai λK y=>?_
 go_wp2
 go_loopw [65] (λiv wr=>∃i:Nat,iv=iV i/\i<=n/\Hid (I i wr)) (λiv _=>n - (intOf iv).toNat)
 case atStart=>exact ⟨0,rfl,yC _,aj⟩
 clear aj z
 obtain ⟨i,rfl,hi,ae⟩:=hrel
 obtain ⟨d,v,vs,HS,ac,m⟩:∃d v vs,Hid (N3 w Cb Rb vs ss d v wr)/\Hid (Js Sq Lr (UY x) x.reaches o i d vs)/\Hid (vs.length=(x.reaches.drop i).length*8+(x.farms.length+((x.rots.flatMap F8).length+(x.rights.length*5+x.duties.length)))/\(∀v∈vs, -1073741824<=v.n/\v.n<=1073741824)/\d.reaches.length=i/\(d.hours=hrs/\d.duties.length=0/\d.rights.length=0)/\d.farms.length=0):=by
  have h:=ae.o
  rw[HI.o] at h
  obtain ⟨d,v,vs,h1,h2,h3⟩:=h
  exact ⟨d,v,vs,yb h1,yb h2,yb h3⟩
 clear ae
 by_cases au:i < n
 ·have Z:i < x.reaches.length:=by rw[<-U.o];exact au
  have av:(i:Int) < (n:Int):=by omega
  have H:Hid (i < x.reaches.length):=yb Z
  obtain ⟨b,oo,ct,ax,aa,A,ag,ab⟩:=ai.o.2.2 i Z
  obtain rfl:a=some (aV b oo):=ax
  have al:Hid (wr.rangeAt b (oo+i*51) ct):=yb (A8 ag (HS.o.cu.bel.block _ (HC.o.n b aa).1 (HC.o.n b aa).2))
  have T:=yb A
  obtain ⟨D,hD⟩:∃D,x.reaches[i]'Z=D:=⟨_,rfl⟩
  rw[hD] at ab
  have HD:Hid (x.reaches[i]'H.o=D):=yb hD
  have ap:=yb ab
  obtain ⟨-, -,c0,c1,c2,c3,c4,c5,c6,c7,Q,g0,g1,g2,g3,g4,g5,g6,g7⟩:=ab
  obtain ⟨a0,p0,rfl, -⟩:=g0.cells
  obtain ⟨a1,p1,rfl, -⟩:=g1.cells
  obtain ⟨a2,p2,rfl, -⟩:=g2.cells
  obtain ⟨a3,p3,rfl, -⟩:=g3.cells
  obtain ⟨a4,p4,rfl, -⟩:=g4.cells
  obtain ⟨a5,p5,rfl, -⟩:=g5.cells
  obtain ⟨a6,p6,rfl, -⟩:=g6.cells
  obtain ⟨a7,p7,rfl, -⟩:=g7.cells
  clear g0 g1 g2 g3 g4 g5 g6 g7
  have B:=yb Q
  have Y:Hid (∀v∈ct,v.oneCell'=true):=yb (by rw[Q];simp[B6,AA.v,Value.oneCell'])
  clear ag aa A hD Q
  go_upto_region 16 with (first
   |(with_reducible refine yj rfl 123 _ rfl b (oo+i*51) (by kernel_rfl) ct _ al.o qY (by kernel_rfl) (by rw[T.o];kernel_rfl) ?_)
   |(with_reducible refine yt rfl 123 _ _ rfl wr.heap.size ct.toArray (by kernel_rfl) (by kernel_rfl) 123 _ (World.alloc_heap_new _ _) (by rw[yA,T.o];kernel_rfl) (by simp[T.o]) (yL Y.o) ?_;rw[World.setRow_alloc_new]))
  have f:=yb (Iw.mk' HS.o ct 123)
  generalize b3:wr.heap.size=bx at f |-
  clear b3 HS al
  generalize wr.alloc _=wr at f |-
  obtain ⟨E,G,C,v3,v4,v5,s,t,r,az⟩:∃E G C v3 v4 v5 s t r,vs=E::G::C::v3::v4::v5::s::t::r:=ZX (by have h:=m.o.1;have h2:=H.o;simp at h;omega)
  subst az
  obtain ⟨y0,y2⟩:=V6 B.o f.o.x
  obtain ⟨up,ak⟩:∃up:Int,up=if i=0 then -1 else D.frm.n:=⟨_,rfl⟩
  have a8:=yb ak
  clear ak
  go_upto_if 77 with (with_reducible refine yt rfl 82 _ _ rfl wr.heap.size #[.string D.name,iV D.frm.n,iV 0,iV 0,iV 0,iV 0,iV 0,iV 0,iV 0,iV 0,iV 0,iV 0] (by kernel_rfl) (by kernel_rfl) 82 _ (World.alloc_heap_new _ _) (by kernel_rfl) (by kernel_rfl) (by kernel_rfl) ?_;rw[World.setRow_alloc_new])
  have HY:=yb (Iw.mk' f.o.st [.string D.name,iV D.frm.n,iV 0,iV 0,iV 0,iV 0,iV 0,iV 0,iV 0,iV 0,iV 0,iV 0] 82)
  clear f Y T y0 y2 B ap
  have f:=HY
  clear HY
  generalize wr.heap.size=bx at f |-
  generalize wr.alloc _=wr at f |-
  try simp only[Act.put]
  go_cut [] from 66 to 113 (λwx=>Hid (Iw w Cb Rb (E::G::C::v3::v4::v5::s::t::r) ss (Dc d v) d v bx [.string D.name,iV up,iV 0,iV 0,iV 0,iV 0,iV 0,iV 0,iV 0,iV 0,iV 0,iV 0] 82 wx))
  case first=>
   have zc:=MK f.o.x
   have zf:=Dg f.o.x
   obtain ⟨q,hq⟩:∃q,((i:Int)==0)=q:=⟨_,rfl⟩
   have HQ:=yb hq
   cases q
   ·go_wp2
    go_meet
    have S:up=D.frm.n:=by have h:=HQ.o;have h2:=a8.o;rwa [ym (by intro e;rw[e] at h;cases h)] at h2
    rw[S]
    exact f
   go_wp2
   go_meet
   have S:up= -1:=by have h:=HQ.o;have h2:=a8.o;rwa [yz (by have:=eq_of_beq h;omega)] at h2
   rw[S]
   exact yb (f.o.put 1 (iV (-1)))
  clear f
  have f:=hcut
  clear hcut
  generalize wc=wr at f |-
  have af:=yb (λi=>ZY i D E G C v3 v4 v5 s t r)
  go_upto_region 20 with (go_at_call 59;refine f.o.st.cu.num.mono ?_;rintro e1 w2 (⟨hv,rfl,R,F⟩|⟨hv,rfl,F⟩);rotate_left;exact E8 (ac.o.bad H.o (by rw[HD.o,af.o,ym (by omega)])) rfl F;have H2:=yb (f.o.call R F);clear R F f;have f:=H2;clear H2;have zc:=MK f.o.x;have zf:=Dg f.o.x)
  have aq:Hid (E.d<=1/\G.d<=1/\C.d<=1/\v3.d<=1/\v4.d<=1/\v5.d<=1):=yb (by omega)
  have p:=yb ((((((f.o.put 2 (iV E.n)).put 3 (iV G.n)).put 4 (iV C.n)).put 5 (iV v3.n)).put 6 (iV v4.n)).put 7 (iV v5.n))
  simp only[zY,zX] at p
  clear f
  have f:=p
  clear p
  generalize World.setCell (World.setCell (World.setCell (World.setCell (World.setCell (World.setCell w2 _ _) _ _) _ _) _ _) _ _) _ _=wr at f |-
  go_upto_region 21 with (go_at_call 60;refine f.o.st.cu.rat.mono ?_;rintro e1 w2 ⟨rfl,R,F⟩;have H2:=yb (f.o.call R F);clear R F f;have f:=H2;clear H2;have zc:=MK f.o.x;have zf:=Dg f.o.x)
  have p:=yb ((((f.o.put 8 (iV s.n)).put 9 (iV s.d)).put 10 (iV t.n)).put 11 (iV t.d))
  simp only[zY,zX] at p
  clear f
  have f:=p
  clear p
  generalize World.setCell (World.setCell (World.setCell (World.setCell w2 _ _) _ _) _ _) _ _=wr at f |-
  obtain ⟨ct,A⟩:∃ct:LV,ct=[.string D.name,iV up,iV E.n,iV G.n,iV C.n,iV v3.n,iV v4.n,iV v5.n,iV s.n,iV s.d,iV t.n,iV t.d]:=⟨_,rfl⟩
  rw[<-A] at f
  have B:=yb A
  clear A
  refine qt ?_
  refine yZ rfl λK y=>?_
  go_simp
  refine y _ _ ?_
  clear y K
  refine yZ rfl λK y=>?_
  have M:=f.o.st.b
  have c9:=(BV M).2.2.2.2.1
  clear M
  go_simp
  refine y _ _ ?_
  clear y K
  refine yj rfl 82 (.tmp 10) rfl bx 0 (by kernel_rfl) ct _ (Ae f.o.x) jA rfl (by rw[B.o];kernel_rfl) ?_
  have A:=B.o
  subst A
  refine yZ rfl λK y=>?_
  obtain ⟨w3,V⟩:∃w3,w3=wr.alloc (.cells #[.string D.name,iV up,iV E.n,iV G.n,iV C.n,iV v3.n,iV v4.n,iV v5.n,iV s.n,iV s.d,iV t.n,iV t.d] 82):=⟨_,rfl⟩
  have p:=yb (f.o.up ((yg _ _).alloc (yi _) (.cells #[.string D.name,iV up,iV E.n,iV G.n,iV C.n,iV v3.n,iV v4.n,iV v5.n,iV s.n,iV s.d,iV t.n,iV t.d] 82)))
  have HG:Hid (w3.heap[wr.heap.size]?=some (.cells #[.string D.name,iV up,iV E.n,iV G.n,iV C.n,iV v3.n,iV v4.n,iV v5.n,iV s.n,iV s.d,iV t.n,iV t.d] 82 (0,0))):=yb (by rw[V];exact World.alloc_heap_new _ _)
  rw[<-V] at p
  refine E5 24 82 _ [[.string D.name,iV up,iV E.n,iV G.n,iV C.n,iV v3.n,iV v4.n,iV v5.n,iV s.n,iV s.d,iV t.n,iV t.d]] 1 rfl [.string D.name,iV up,iV E.n,iV G.n,iV C.n,iV v3.n,iV v4.n,iV v5.n,iV s.n,iV s.d,iV t.n,iV t.d] (by simp) rfl (by kernel_rfl) 12 j6 (by kernel_rfl) (by simp) (by omega) (by omega) ?_
  rw[show wr.alloc _=w3 from V.symm]
  clear f V
  have f:=p
  clear p
  refine y _ _ ?_
  clear y K
  generalize wr.heap.size=g at HG |-
  refine yZ rfl λK y=>?_
  obtain ⟨va,vm,vk,ay⟩:=AR (f.o.st.own 0 (by decide))
  have ah:=yb (f.o.st.own 0 (by decide))
  refine Dn j6 (.tmp 108) (.tmp 110) rfl 12 (by kernel_rfl) (by decide) (w.heap.size+2) (v 0) (EN d 0) (Lv d 0) (by kernel_rfl) ah.o g 1 (Ft ⟨D.name,up,E.n,G.n,C.n,v3.n,v4.n,v5.n,s,t⟩) (by kernel_rfl) HG.o rfl (by simp[Value.oneCell',JS,Jr,AZ,IS,Ft]) (by have h:=m.o.2.2.1;have:=am.o;have:=H.o;show (d.reaches.length+1)*128<=_;omega) (by have:=f.o.st.lt;omega) ?_
  intro v9 w9 O an b4
  have J:=yb (f.o.st.app (d':=Lr d ⟨D.name,up,E.n,G.n,C.n,v3.n,v4.n,v5.n,s,t⟩) (k:=0) (by decide) (x:=v9) (by simpa[EN,Lv,Pv,Rk,Lr] using O) an (λj hj b0=>by
   match j,hj with
   |0,_=>exact absurd rfl b0
   |1,_=>exact ⟨rfl,rfl⟩
   |2,_=>exact ⟨rfl,rfl⟩
   |3,_=>exact ⟨rfl,rfl⟩
   |4,_=>exact ⟨rfl,rfl⟩))
  obtain ⟨za,zm,zk,rfl⟩:=AR O
  clear O an b4 f ah HG ay
  refine y _ _ ?_
  clear y K
  refine yZ rfl λK y=>?_
  go_simp
  refine y _ _ ?_
  clear y K
  refine yZ rfl λK y=>?_
  have M:=J.o.b
  have c9:=(BV M).2.2.2.2.1
  have f9:w9.frozen? (aV (w.heap.size+1) 4)=false:=by simp[World.frozen?,M]
  go_simp
  refine y _ _ ?_
  clear y K c9 f9 M
  refine qQ ?_
  have X:=yb (J.o.set (k:=4) (x:=.slice za zm zk) rfl)
  clear J
  have J:=X
  clear X
  generalize w9.setCell _ _=wr at J |-
  have ao:Hid (I (i+1) wr):=yb (by
   rw[HI.o]
   exact ⟨Lr d ⟨D.name,up,E.n,G.n,C.n,v3.n,v4.n,v5.n,s,t⟩,_,r,J.o,ac.o.step H.o (by rw[HD.o,af.o,yz aq.o,a8.o]),by have h:=m.o.1;have h2:=H.o;simp at h |-;omega,λv hv=>m.o.2.1 v (by simp[hv]),by have h:=m.o.2.2.1;simp[Lr];omega,m.o.2.2.2⟩)
  go_wp2
  exact ⟨⟨i+1,by push_cast;rfl,by omega,ao⟩,by simp[intOf];omega⟩
 obtain rfl:i=n:=by omega
 have av:decide ((i:Int) < (i:Int))=false:=by simp
 have HE:Hid (o=(UY x) d vs):=yb (by have h:=ac.o;rw[U.o] at h;exact h.done)
 go_wp2
 refine y.o _ _ ?_
 refine I7 (P:=λl=>Code.wp Tryz.prog _ _ ⟨l,[]⟩ _) rfl ?_
 exact bB HC.o ⟨rfl,rfl,rfl,rfl⟩ HS.o HE.o m.o.2.2.2 aw.o (by have h:=m.o.1;rw[U.o,xE] at h;simpa using h) m.o.2.1
end Go.Proofs.YtbdfinegbjdblaaGreatDoor
