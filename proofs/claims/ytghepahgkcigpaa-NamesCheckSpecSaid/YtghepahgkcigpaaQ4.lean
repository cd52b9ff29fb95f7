/- Parts of the proof, in short words: Qa Pg Ph Pi Pj Pk Zf -/
import Derived.Test.YtghepahgkcigpaaQ0
import Derived.Test.YtghepahgkcigpaaQ1
import Derived.Test.YtghepahgkcigpaaQ3
import Derived.StillTailTactics
set_option maxHeartbeats 16000000
set_option maxRecDepth 100000
set_option linter.unusedSimpArgs false
namespace Go.Proofs.Ytghepahgkcigpaa
open Go.RowKit
theorem Hl{W:World}{b o m i:Nat}{s:ByteArray}{z most:Int}{a:LB}(h0:W.cell? ⟨b,o,none⟩=some (.string s))(h1:W.cell? ⟨b,o+1,none⟩=some (.int .i64 z))(g:W.frozen? ⟨b,o+1,none⟩=false)(f:CH W m a)(hs:s.size<=maxLen)(d:B9 a s=some i)(hi:(i:Int) < most):
  Calls Try.prog 49 #[.pointer (some ⟨b,o,none⟩),.map (some m),.int .i64 most] W fun e w'=>e=.returned (.tuple #[])∧w'=W.setCell ⟨b,o+1,none⟩ (.int .i64 (i:Int)):=by
 have c:=f.look s hs
 simp only[JC,d] at c
 have j:=ya d
 clear d f
 go_enter Try.func49,Try.ntmps49
 go_wp2_with (first|(go_at_call 50;refine (Df _ _).mono ?_;rintro e h ⟨rfl,rfl⟩))
 go_end0
 exact ⟨rfl,rfl⟩
theorem Je{W:World}{b o m:Nat}{s:ByteArray}{most:Int}{a:LB}(h0:W.cell? ⟨b,o,none⟩=some (.string s))(g:CH W m a)(hs:s.size<=maxLen)(f:∀i,B9 a s=some i->¬ (i:Int) < most):
  Calls Try.prog 49 #[.pointer (some ⟨b,o,none⟩),.map (some m),.int .i64 most] W fun e w'=>e=.panicked (Fx 170)∧w'=W:=by
 have d:=g.look s hs
 cases c:B9 a s with
 |none=>
  simp only[JC,c] at d
  have k:=ya f;have h:=ya c
  clear f g c
  go_enter Try.func49,Try.ntmps49
  go_wp2_with (first|(go_at_call 50;refine (D7 _ _).mono ?_;rintro e j ⟨rfl,rfl⟩))
  exact ⟨rfl,rfl,rfl⟩
 |some i=>
  have hi:=f i c
  simp only[JC,c] at d
  have h:=ya c
  clear f g c
  go_enter Try.func49,Try.ntmps49
  go_wp2_with (first|(go_at_call 50;refine (D7 _ _).mono ?_;rintro e j ⟨rfl,rfl⟩))
  exact ⟨rfl,rfl,rfl⟩
def IB{α:Type}(B:Nat)(W:World)(t sz:Nat)(Q:LV->α->Prop)(h:AF)(l:List α):Prop:=
 h.n=l.length∧∀i (hi:i < l.length),∃g cs,h.a=some ⟨g,0,none⟩∧B<=g∧Ty W g t∧cs.length=sz∧W.rangeAt g (i*sz) cs∧Q cs l[i]
theorem IB.of{α:Type}{B b:Nat}{W:World}{t sz:Nat}{Q:LV->α->Prop}{h:AF}{l:List α}(e:h.n=l.length)(c:B<=b)(d:∀i (hi:i < l.length),∃g cs,h.a=some ⟨g,0,none⟩∧b<=g∧Ty W g t∧cs.length=sz∧W.rangeAt g (i*sz) cs∧Q cs l[i]):IB B W t sz Q h l:=
 ⟨e,fun i hi=>by
  obtain ⟨g,cs,h1,h2,h3⟩:=d i hi
  exact ⟨g,cs,h1,yo c h2,h3⟩⟩
theorem IB.up{α:Type}{B:Nat}{W W':World}{t sz:Nat}{Q:LV->α->Prop}{h:AF}{l:List α}(a:IB B W t sz Q h l)(hb:∀b,B<=b->b < W.heap.size->W'.heap[b]?=W.heap[b]?):IB B W' t sz Q h l:=
 ⟨a.1,fun i hi=>by
  obtain ⟨g,cs,h1,h2,h3,h4,h5,h6⟩:=a.2 i hi
  exact ⟨g,cs,h1,h2,h3.same (hb g h2 h3.lt),h4,A1 h5 (hb g h2 h3.lt),h6⟩⟩
theorem IB.Xz{α:Type}{B:Nat}{W W':World}{t sz:Nat}{Q:LV->α->Prop}{h:AF}{l:List α}(a:IB B W t sz Q h l)(hb:∀b,B<=b->Ty W b t->W'.heap[b]?=W.heap[b]?):IB B W' t sz Q h l:=
 ⟨a.1,fun i hi=>by
  obtain ⟨g,cs,h1,h2,h3,h4,h5,h6⟩:=a.2 i hi
  exact ⟨g,cs,h1,h2,h3.same (hb g h2 h3),h4,A1 h5 (hb g h2 h3),h6⟩⟩
theorem CZ{w:World}{b o:Nat}{v:Value}{l:LV}(h:w.rangeAt b o (v::l)):w.cell? ⟨b,o,none⟩=some v∧w.rangeAt b (o+1) l:=
 ⟨h 0 v rfl,fun j u a=>by have:=h (j+1) u (by simpa using a);rw[show o+1+j=o+(j+1) by omega];exact this⟩
theorem Nu{w:World}{b o:Nat}{l m:LV}(h:w.rangeAt b o (l++m)):w.rangeAt b o l∧w.rangeAt b (o+l.length) m:=
 ⟨fun j u a=>h j u (by rw[zp (yA.1 a).1];exact a),fun j u a=>by
  have:=h (l.length+j) u (by rw[yJ (by omega),xW];exact a)
  rw[show o+l.length+j=o+(l.length+j) by omega];exact this⟩
theorem CI{w:World}{b o:Nat}{c l:LV}(hc:c.length=6)(h:w.rangeAt b o (c++l)):w.rangeAt b o c∧w.rangeAt b (o+6) l:=by
 have:=Nu h
 rw[hc] at this;exact this
theorem EP{w:World}{b o:Nat}{r:Rf}{l:LV}(hs:r.name.size<=maxLen)(to:Int)(h:w.rangeAt b o (Ad r++l)):RV w to r b o∧w.rangeAt b (o+2) l:=by
 obtain ⟨h1,h2⟩:=Nu h
 exact ⟨⟨hs,h1 0 _ rfl,h1 1 _ rfl⟩,h2⟩
section
variable{N N':NP}{w W:World}{B:Nat}{h:AF}
theorem E4(hb:∀b,N b->W.heap[b]?=w.heap[b]?){e:Ex}{c:LV}{b o:Nat}(lt:Int)(d:Bh N w e c)(a:W.rangeAt b o c):EV N W lt e b o:=⟨c,a,d.same (fun _ h=>h) hb⟩
theorem Ie{α:Type}{t sz:Nat}{Q:LV->α->Prop}{P:Nat->Nat->Nat->α->Prop}{l:List α}(b:IB B W t sz Q h l)(hl:l.length<=100000)(hN:∀g,B<=g->N' g)(c:∀i (_:i < l.length) g cs,h.a=some ⟨g,0,none⟩->W.rangeAt g (i*sz) cs->Q cs l[i]->P i g (i*sz) l[i]):F7 N' W t sz P h l:=
 ⟨b.1,by omega,fun i hi=>by
  obtain ⟨g,cs,h1,h2,h3,h4,h5,h6⟩:=b.2 i hi
  exact ⟨g,h1,hN g h2,h3,c i hi g cs h1 h5 h6⟩⟩
variable(hb:∀b,N b->W.heap[b]?=w.heap[b]?)
include hb
theorem SX(i g o:Nat)(cs:LV)(d:E8)(b:W.rangeAt g o cs)(h:Hf N w cs d):Wz (EV N W) W i g o d:=by
 obtain ⟨h1,c,rfl,h2⟩:=h
 obtain ⟨a,r1⟩:=CZ b
 exact ⟨⟨h1,a⟩,E4 hb _ h2 r1⟩
theorem QW(i g o:Nat)(cs:LV)(d:Cp)(b:W.rangeAt g o cs)(h:F6 N w cs d):VG (EV N W) W i g o d:=by
 obtain ⟨h1,c,rfl,h2⟩:=h
 obtain ⟨a,r1⟩:=CZ b
 exact ⟨⟨h1,a⟩,E4 hb _ h2 r1⟩
theorem Pw(i g o:Nat)(cs:LV)(d:AI)(n:W.rangeAt g o cs)(h:CY N w cs d):TM (EV N W) (RV W) W i g o d:=by
 obtain ⟨h1,h2,c0,c1,c2,B,D,A,z,C,rfl,k,g1,j,a,b,e,c,p⟩:=h
 obtain ⟨x,r⟩:=CZ n
 obtain ⟨f,r⟩:=EP h2 (if i=0 then 0 else 6) r
 obtain ⟨l,r⟩:=CI k.len r
 obtain ⟨v,r⟩:=CI g1.len r
 obtain ⟨q,r⟩:=CI j.len r
 obtain ⟨s,r⟩:=CI a.len r
 obtain ⟨m,r⟩:=CI b.len r
 obtain ⟨u,r⟩:=CI e.len r
 obtain ⟨t,y⟩:=CI c.len r
 exact ⟨⟨h1,x⟩,f,E4 hb _ k l,E4 hb _ g1 v,E4 hb _ j q,E4 hb _ a s,E4 hb _ b m,E4 hb _ e u,E4 hb _ c t,E4 hb _ p y⟩
theorem QX(i g o:Nat)(cs:LV)(d:BN)(c:W.rangeAt g o cs)(h:E9 N w cs d):VH (EV N W) (RV W) W i g o d:=by
 obtain ⟨h1,h2,h3,c0,rfl,a⟩:=h
 obtain ⟨j,r⟩:=CZ c
 obtain ⟨f,r⟩:=EP h2 4 r
 obtain ⟨v,r⟩:=CZ r
 obtain ⟨b,r⟩:=CI a.len r
 obtain ⟨e,_⟩:=EP (l:=[]) h3 (if d.river then 0 else 3) (by rw[yG];exact r)
 exact ⟨⟨h1,j⟩,f,v,E4 hb _ a b,e⟩
theorem QY(i g o:Nat)(cs:LV)(d:BM)(a:W.rangeAt g o cs)(h:Fv N w cs d):VI (EV N W) (RV W) i g o d:=by
 obtain ⟨h1,c0,rfl,b⟩:=h
 obtain ⟨f,r⟩:=EP h1 5 a
 exact ⟨f,E4 hb _ b r⟩
theorem Px(i g o:Nat)(cs:LV)(d:AJ)(m:W.rangeAt g o cs)(h:CQ N w cs d):TN (EV N W) (RV W) W i g o d:=by
 obtain ⟨h1,h2,h3,c0,c1,c2,u,x,rfl,c,g1,b,a,e⟩:=h
 obtain ⟨k,r⟩:=CZ m
 obtain ⟨t,r⟩:=CZ r
 obtain ⟨f,r⟩:=EP h2 5 r
 obtain ⟨q,r⟩:=EP h3 (if d.kind=1 then 0 else 4) r
 obtain ⟨v,r⟩:=CZ r
 obtain ⟨j,r⟩:=CI c.len r
 obtain ⟨s,r⟩:=CI g1.len r
 obtain ⟨n,r⟩:=CI b.len r
 obtain ⟨p,l⟩:=CI a.len r
 exact ⟨k,⟨h1,t⟩,f,q,v,E4 hb _ c j,E4 hb _ g1 s,E4 hb _ b n,E4 hb _ a p,E4 hb _ e l⟩
theorem QZ(i g o:Nat)(cs:LV)(d:BV)(b:W.rangeAt g o cs)(h:Er N w cs d):VJ (EV N W) (RV W) W i g o d:=by
 obtain ⟨h1,h2,h3,c0,rfl,c⟩:=h
 obtain ⟨a,r⟩:=CZ b
 obtain ⟨f,r⟩:=EP h2 5 r
 obtain ⟨e,r⟩:=EP h3 4 r
 exact ⟨⟨h1,a⟩,f,e,E4 hb _ c r⟩
end
structure MU (x:AA):Prop where
 lets:x.lets.length<=100000
 crops:x.crops.length<=100000
 reaches:x.reaches.length<=100000
 farms:x.farms.length<=100000
 rots:x.rots.length<=100000
 rights:x.rights.length<=100000
 duties:x.duties.length<=100000
 turns:∀d∈x.rots,d.turns.length<=100000
 exprs:∀e∈Bb x,IM e.1
theorem TX{N N':NP}{w U W:World}{B:Nat}{L L':BL}{l:List AS}(hb:∀b,N b->W.heap[b]?=w.heap[b]?)(z:IB B U 64 23 (fun cs (d:AS × Nat)=>I6 N w (A5 L d.2) cs d.1) L'.rots l.zipIdx)(hN:∀g,B<=g->N' g)(hl:l.length<=100000)
 (o:∀d∈l,d.turns.length<=100000)(y:∀g,L'.rots.a=some ⟨g,0,none⟩->Ty U g 64->Ty W g 64)(hc:∀g,L'.rots.a=some ⟨g,0,none⟩->∀i q,q < 22->W.cell? ⟨g,i*23+q,none⟩=U.cell? ⟨g,i*23+q,none⟩)
 (G:∀i (_:i < l.length) g,L'.rots.a=some ⟨g,0,none⟩->W.cell? ⟨g,i*23+22,none⟩=some (A5 L' i).v)(F:∀i (h:i < l.length),IB B W 66 8 (Fv N w) (A5 L' i) l[i].turns):
  F7 N' W 64 23 (VX N' (EV N W) (RV W) W (A5 L')) L'.rots l:=by
 refine ⟨by have:=z.1;rwa [zy] at this,by omega,fun i hi=>?_⟩
 obtain ⟨g,cs,n,H,I,Q,O,x⟩:=z.2 i (by rw[zy];exact hi)
 rw[xB] at x
 simp only[yD] at x
 refine ⟨g,n,hN g H,y g n I,?_⟩
 obtain ⟨h1,h2,c0,c1,c2,rfl,t,g1,A,_⟩:=x
 have p:W.rangeAt g (i*23) (.string l[i].name::(Ad l[i].on++(iV l[i].rank::(c0++(c1++c2))))):=fun j u C=>by
  have c:=(yA.1 C).1
  have m:(Value.string l[i].name::(Ad l[i].on++(iV l[i].rank::(c0++(c1++c2))))).length=22:=by simp[A9,t.len,g1.len,A.len]
  rw[m] at c
  rw[hc g n i j c]
  refine O j u ?_
  have e:(Value.string l[i].name::(Ad l[i].on++(iV l[i].rank::(c0++(c1++(c2++[(A5 L i).v]))))))=(Value.string l[i].name::(Ad l[i].on++(iV l[i].rank::(c0++(c1++c2)))))++[(A5 L i).v]:=by simp
  rw[e,zp (by omega)]
  exact C
 obtain ⟨K,r⟩:=CZ p
 obtain ⟨f,r⟩:=EP h2 4 r
 obtain ⟨v,r⟩:=CZ r
 obtain ⟨D,r⟩:=CI t.len r
 obtain ⟨J,E⟩:=CI g1.len r
 exact ⟨⟨h1,K⟩,f,v,E4 hb _ t D,E4 hb _ g1 J,E4 hb _ A E,G i hi g n,Ie (F i hi) (o _ (yw hi)) hN (fun k P g cs _ s M=>QY hb k g (k*8) cs _ s M)⟩
theorem R4{N N':NP}{w W:World}{B:Nat}{L:BL}{x:AA}{k h e:Option Addr}{f p1 p2:Nat}(hb:∀b,N b->W.heap[b]?=w.heap[b]?)(hN:∀g,B<=g->N' g)(hs:MU x)
 (hc:W.heap[L.s]?=some (.cells #[.string x.name,.int .i64 x.season.op,.int .i64 x.season.n,.int .i64 x.season.u,.string x.season.rn,.int .i64 x.season.ri,.slice k x.season.args.length f,.int .i64 x.cap.op,.int .i64 x.cap.n,.int .i64 x.cap.u,.string x.cap.rn,.int .i64 x.cap.ri,.slice h x.cap.args.length p1,.int .i64 x.start.op,.int .i64 x.start.n,.int .i64 x.start.u,.string x.start.rn,.int .i64 x.start.ri,.slice e x.start.args.length p2,L.lets.v,L.crops.v,L.reaches.v,L.farms.v,L.rots.v,L.rights.v,L.duties.v] 35 (0,0)))(q:x.name.size<=maxLen)(h0:Bh N w x.season [.int .i64 x.season.op,.int .i64 x.season.n,.int .i64 x.season.u,.string x.season.rn,.int .i64 x.season.ri,.slice k x.season.args.length f])(h1:Bh N w x.cap [.int .i64 x.cap.op,.int .i64 x.cap.n,.int .i64 x.cap.u,.string x.cap.rn,.int .i64 x.cap.ri,.slice h x.cap.args.length p1])(h2:Bh N w x.start [.int .i64 x.start.op,.int .i64 x.start.n,.int .i64 x.start.u,.string x.start.rn,.int .i64 x.start.ri,.slice e x.start.args.length p2])
 (m:IB B W 55 7 (Hf N w) L.lets x.lets)(rc:IB B W 57 7 (F6 N w) L.crops x.crops)(p:IB B W 51 51 (CY N w) L.reaches x.reaches)(t:IB B W 59 12 (E9 N w) L.farms x.farms)
 (o:F7 N' W 64 23 (VX N' (EV N W) (RV W) W (A5 L)) L.rots x.rots)(ri:IB B W 68 37 (CQ N w) L.rights x.rights)(l:IB B W 70 11 (Er N w) L.duties x.duties):CT N' (EV N W) (RV W) W L x:=by
 have a:∀j v,#[.string x.name,iV x.season.op,iV x.season.n,iV x.season.u,.string x.season.rn,iV x.season.ri,.slice k x.season.args.length f,iV x.cap.op,iV x.cap.n,iV x.cap.u,.string x.cap.rn,iV x.cap.ri,.slice h x.cap.args.length p1,iV x.start.op,iV x.start.n,iV x.start.u,.string x.start.rn,iV x.start.ri,.slice e x.start.args.length p2,L.lets.v,L.crops.v,L.reaches.v,L.farms.v,L.rots.v,L.rights.v,L.duties.v][j]?=some v->W.cell? (aV L.s j)=some v:=fun j v r=>by simp only[World.cell?,hc];simpa using r
 refine ⟨⟨_,hc⟩,⟨q,a 0 _ rfl⟩,?_,?_,?_,a 19 _ rfl,a 20 _ rfl,a 21 _ rfl,a 22 _ rfl,a 23 _ rfl,a 24 _ rfl,a 25 _ rfl,?_,?_,?_,?_,o,?_,?_⟩
 ·exact E4 hb 0 h0 (Ac (a 1 _ rfl) (Ac (a 2 _ rfl) (Ac (a 3 _ rfl) (Ac (a 4 _ rfl) (Ac (a 5 _ rfl) (CE (a 6 _ rfl)))))))
 ·exact E4 hb 0 h1 (Ac (a 7 _ rfl) (Ac (a 8 _ rfl) (Ac (a 9 _ rfl) (Ac (a 10 _ rfl) (Ac (a 11 _ rfl) (CE (a 12 _ rfl)))))))
 ·exact E4 hb 0 h2 (Ac (a 13 _ rfl) (Ac (a 14 _ rfl) (Ac (a 15 _ rfl) (Ac (a 16 _ rfl) (Ac (a 17 _ rfl) (CE (a 18 _ rfl)))))))
 ·exact Ie m hs.lets hN (fun i _ g cs _ c d=>SX hb i g _ cs _ c d)
 ·exact Ie rc hs.crops hN (fun i _ g cs _ c d=>QW hb i g _ cs _ c d)
 ·exact Ie p hs.reaches hN (fun i _ g cs _ c d=>Pw hb i g _ cs _ c d)
 ·exact Ie t hs.farms hN (fun i _ g cs _ c d=>QX hb i g _ cs _ c d)
 ·exact Ie ri hs.rights hN (fun i _ g cs _ c d=>Px hb i g _ cs _ c d)
 ·exact Ie l hs.duties hN (fun i _ g cs _ c d=>QZ hb i g _ cs _ c d)
theorem DA{α:Type}{f:Nat->α->α}(h:∀i a,f i a=a)(l:List α):l.mapIdx f=l:=by
 refine zw (by simp) fun i h1 h2=>?_
 rw[xA];exact h _ _
theorem WB(x:AA):x.mp (fun _ e=>e) (fun _ r=>r)=x:=by
 unfold AA.mp
 have h1:=DA (f:=E8.mp fun _ e=>e) (fun _ _=>rfl) x.lets
 have h2:=DA (f:=Cp.mp fun _ e=>e) (fun _ _=>rfl) x.crops
 have h3:=DA (f:=AI.mp (fun _ e=>e) fun _ r=>r) (fun _ _=>rfl) x.reaches
 have h4:=DA (f:=BN.mp (fun _ e=>e) fun _ r=>r) (fun _ _=>rfl) x.farms
 have h5:=DA (f:=AS.mp (fun _ e=>e) fun _ r=>r) (fun _ d=>by
  unfold AS.mp
  rw[DA (f:=BM.mp (fun _ e=>e) fun _ r=>r) (fun _ _=>rfl) d.turns]) x.rots
 have h6:=DA (f:=AJ.mp (fun _ e=>e) fun _ r=>r) (fun _ _=>rfl) x.rights
 have a:=DA (f:=BV.mp (fun _ e=>e) fun _ r=>r) (fun _ _=>rfl) x.duties
 rw[h1,h2,h3,h4,h5,h6,a]
section
variable{N:NP}{E E':Int->Ex->Nat->Nat->Prop}{R R':Int->Rf->Nat->Nat->Prop}{w w':World}{L:BL}{x:AA}
theorem CT.imp(h:CT N E R w L x)(i:∀b t,(N b∨b=L.s)->Ty w b t->Ty w' b t)(c:∀b o,(N b∨b=L.s)->Pe w b o->w'.cell? ⟨b,o,none⟩=w.cell? ⟨b,o,none⟩)
 (a:∀lt e b o,(N b∨b=L.s)->I9 w b o->E lt e b o->E' lt e b o)(d:∀to r b o,(N b∨b=L.s)->QI w b o->R to r b o->R' to r b o):CT N E' R' w' L x:=by
 have:=h.map (f:=fun _ e=>e) (g:=fun _ r=>r) i c a d
 rwa [WB] at this
theorem Ap{w w':World}{b o:Nat}(h:w'.heap[b]?=w.heap[b]?):w'.cell? ⟨b,o,none⟩=w.cell? ⟨b,o,none⟩:=by
 unfold World.cell?;rw[h]
theorem I9.lt{b o:Nat}(h:I9 w b o):b < w.heap.size:=by obtain ⟨t,h,_⟩:=h;exact h.lt
theorem QI.lt{b o:Nat}(h:QI w b o):b < w.heap.size:=by obtain ⟨t,h,_⟩:=h;exact h.lt
theorem Pe.lt{b o:Nat}(h:Pe w b o):b < w.heap.size:=by obtain ⟨t,h,_⟩:=h;exact h.lt
theorem CT.up{M:NP}(h:CT N (EV M w) (RV w) w L x)(hM:∀b,M b->b < w.heap.size)(hb:Below w.heap.size w w'):CT N (EV M w') (RV w') w' L x:=by
 refine h.imp (fun b t _ g=>g.same (hb.block b g.lt)) (fun b o _ a=>Ap (hb.block b a.lt)) (fun lt e b o _ a i=>?_) (fun to r b o _ a d=>?_)
 ·obtain ⟨c,h1,h2⟩:=i
  exact ⟨c,A1 h1 (hb.block b a.lt),h2.same (fun _ h=>h) (fun b f=>hb.block b (hM b f))⟩
 ·exact ⟨d.1,(Ap (hb.block b a.lt)).trans d.2.1,(Ap (hb.block b a.lt)).trans d.2.2⟩
end
theorem AW.split{α β:Type}{R:α->β->Prop}:∀ {l:List α} {m:List β} {l':List α} {a:List β},l.length=m.length->AW R (l++l') (m++a)->AW R l m∧AW R l' a
 |[],[],_,_,_,h=>⟨trivial,h⟩
 |_::_,_::_,_,_,hl,h=>by
  obtain ⟨h1,h2⟩:=AW.split (by simpa using hl) h.2
  exact ⟨⟨h.1,h1⟩,h2⟩
 |[],_::_,_,_,hl,_=>by simp at hl
 |_::_,[],_,_,hl,_=>by simp at hl
theorem JD{α β γ:Type}{R:α->β->Prop}(f:Nat->List α)(g:Nat->γ->List β):∀(l:List γ) (k:Nat),(∀i (h:i < l.length),(f (k+i)).length=(g (k+i) l[i]).length)->
  AW R ((List.range' k l.length).flatMap f) ((l.zipIdx k).flatMap fun p=>g p.2 p.1)->∀i (h:i < l.length),AW R (f (k+i)) (g (k+i) l[i])
 |[],_,_,_,i,h=>by simp at h
 |x::r,k,hl,hA,i,h=>by
  rw[yC,List.range'_succ,yY,qd,yY] at hA
  obtain ⟨h1,h2⟩:=AW.split (hl 0 (by simp)) hA
  cases i with
  |zero=>exact h1
  |succ i=>
   have:=JD f g r (k+1) (fun i hi=>by have:=hl (i+1) (by simpa using hi);rw[show k+1+i=k+(i+1) by omega];simpa using this) h2 i (by simpa using h)
   rw[show k+1+i=k+(i+1) by omega] at this
   simpa using this
theorem Cz{α β γ:Type}{R:α->β->Prop}(f:Nat->List α)(g:Nat->γ->List β)(l:List γ)(n:Nat)(b:n=l.length)(hl:∀i (h:i < l.length),(f i).length=(g i l[i]).length)(a:AW R ((List.range n).flatMap f) (l.zipIdx.flatMap fun p=>g p.2 p.1)):∀i (h:i < l.length),AW R (f i) (g i l[i]):=by
 subst b
 rw[List.range_eq_range'] at a
 intro i h
 have:=JD f g l 0 (fun i hi=>by rw[yD];exact hl i hi) a i h
 rwa [yD] at this
theorem Gg{α β γ:Type}(f:Nat->List α)(g:Nat->γ->List β)(l:List γ)(n:Nat)(c:n=l.length)(hl:∀i (h:i < l.length),(f i).length=(g i l[i]).length):((List.range n).flatMap f).length=(l.zipIdx.flatMap fun p=>g p.2 p.1).length:=
 AW.length (R:=fun _ _=>True) (BO f g l n c (fun i h=>by
  have:∀(a:List α) (b:List β),a.length=b.length->AW (fun _ _=>True) a b:=by
   intro a
   induction a with
   |nil=>intro b hb;cases b with
    |nil=>trivial
    |cons=>simp at hb
   |cons x r ih=>intro b hb;cases b with
    |nil=>simp at hb
    |cons y s=>exact ⟨trivial,ih s (by simpa using hb)⟩
  exact this _ _ (hl i h)))
def TY(E:Int->Ex->Nat->Nat->Prop)(a:Array Value)(e:Kp):Prop:=∃b o,a=#[.pointer (some ⟨b,o,none⟩),.int .i64 e.2]∧E e.2 e.1 b o
section
variable{N:NP}{E E':Int->Ex->Nat->Nat->Prop}{R:Int->Rf->Nat->Nat->Prop}{w:World}
theorem Cs{h:AF}{g sz i off:Nat}{e:Ex}{lt:Int}(c:h.a=some ⟨g,0,none⟩)(d:TY E' #[h.ptr sz i off,.int .i64 lt] (e,lt)):E' lt e g (i*sz+off):=by
 obtain ⟨b,o,h1,h2⟩:=d
 unfold AF.ptr at h1
 rw[BE c,yD] at h1
 simp only[qp,zq,xV,yZ,qv,and_true] at h1
 obtain ⟨rfl,rfl⟩:=h1
 exact h2
theorem M2{s off b o:Nat}{lt:Int}{e:Ex}(h1:(#[.pointer (some ⟨s,off,none⟩),.int .i64 lt]:Array Value)=#[.pointer (some ⟨b,o,none⟩),.int .i64 lt])(h2:E' lt e b o):E' lt e s off:=by
 simp only[qp,zq,xV,yZ,qv,and_true] at h1
 obtain ⟨rfl,rfl⟩:=h1
 exact h2
theorem CT.told{L:BL}{x:AA}(h:CT N E R w L x)(c:AW (TY E') (Cw L) (Bb x)):CT N E' R w L x:=by
 unfold Cw Bb at c
 obtain ⟨I,c⟩:=AW.split (l:=AL (Ax L.s)) (m:=[(x.season,(0:Int)),(x.cap,0),(x.start,0)]) rfl c
 obtain ⟨S,c⟩:=AW.split (Gg _ (fun i (d:E8)=> [(d.value,1+(i:Int))]) x.lets _ h.lets.1 (fun _ _=>rfl)) c
 obtain ⟨H,c⟩:=AW.split (Gg _ (fun i (d:Cp)=> [(d.need,(0:Int))]) x.crops _ h.crops.1 (fun _ _=>rfl)) c
 obtain ⟨J,c⟩:=AW.split (Gg _ (fun i (d:AI)=> [(d.delay,(0:Int)),(d.cap,0),(d.bank,0),(d.siphon,0),(d.evap0,0),(d.evap1,0),(d.seep0,0),(d.seep1,0)]) x.reaches _ h.reaches.1 (fun _ _=>rfl)) c
 obtain ⟨P,c⟩:=AW.split (Gg _ (fun i (d:BN)=> [(d.area,(0:Int))]) x.farms _ h.farms.1 (fun _ _=>rfl)) c
 have p:∀i (hi:i < x.rots.length),(AL (F5 L.rots i)++Cq (A5 L i) (A5 L i).n).length=([(x.rots[i].flow,(0:Int)),(x.rots[i].frm,0),(x.rots[i].to,0)]++DY x.rots[i].turns).length:=fun i hi=>by
  obtain ⟨g,g1,a,ty,_,_,_,_,_,_,_,o⟩:=h.rots.2.2 i hi
  rw[yi,yi]
  congr 1
  exact Gg _ (fun k (d:BM)=> [(d.len,(0:Int))]) x.rots[i].turns _ o.1 (fun _ _=>rfl)
 obtain ⟨Q,c⟩:=AW.split (Gg _ (fun i (d:AS)=> [(d.flow,(0:Int)),(d.frm,0),(d.to,0)]++DY d.turns) x.rots _ h.rots.1 p) c
 obtain ⟨M,V⟩:=AW.split (Gg _ (fun i (d:AJ)=> [(d.flow,(0:Int)),(d.frm,0),(d.to,0),(d.every,0),(d.len,0)]) x.rights _ h.rights.1 (fun _ _=>rfl)) c
 have B1:=Cz _ (fun i (d:E8)=> [(d.value,1+(i:Int))]) x.lets _ h.lets.1 (fun _ _=>rfl) S
 have B2:=Cz _ (fun i (d:Cp)=> [(d.need,(0:Int))]) x.crops _ h.crops.1 (fun _ _=>rfl) H
 have B3:=Cz _ (fun i (d:AI)=> [(d.delay,(0:Int)),(d.cap,0),(d.bank,0),(d.siphon,0),(d.evap0,0),(d.evap1,0),(d.seep0,0),(d.seep1,0)]) x.reaches _ h.reaches.1 (fun _ _=>rfl) J
 have B4:=Cz _ (fun i (d:BN)=> [(d.area,(0:Int))]) x.farms _ h.farms.1 (fun _ _=>rfl) P
 have B5:=Cz _ (fun i (d:AS)=> [(d.flow,(0:Int)),(d.frm,0),(d.to,0)]++DY d.turns) x.rots _ h.rots.1 p Q
 have B:=Cz _ (fun i (d:AJ)=> [(d.flow,(0:Int)),(d.frm,0),(d.to,0),(d.every,0),(d.len,0)]) x.rights _ h.rights.1 (fun _ _=>rfl) M
 have D:=Cz _ (fun i (d:BV)=> [(d.due,(0:Int))]) x.duties _ h.duties.1 (fun _ _=>rfl) V
 obtain ⟨⟨b0,W,A,z⟩,⟨b1,o1,t1,O⟩,⟨b2,o2,t2,G⟩,_⟩:=I
 refine ⟨h.ty,h.name,M2 A z,M2 t1 O,M2 t2 G,h.hlets,h.hcrops,h.hreaches,h.hfarms,h.hrots,h.hrights,h.hduties,⟨h.lets.1,h.lets.2.1,fun i hi=>?_⟩,⟨h.crops.1,h.crops.2.1,fun i hi=>?_⟩,⟨h.reaches.1,h.reaches.2.1,fun i hi=>?_⟩,⟨h.farms.1,h.farms.2.1,fun i hi=>?_⟩,⟨h.rots.1,h.rots.2.1,fun i hi=>?_⟩,⟨h.rights.1,h.rights.2.1,fun i hi=>?_⟩,⟨h.duties.1,h.duties.2.1,fun i hi=>?_⟩⟩
 ·obtain ⟨g,g1,a,ty,b,_⟩:=h.lets.2.2 i hi
  exact ⟨g,g1,a,ty,b,Cs g1 (B1 i hi).1⟩
 ·obtain ⟨g,g1,a,ty,b,_⟩:=h.crops.2.2 i hi
  exact ⟨g,g1,a,ty,b,Cs g1 (B2 i hi).1⟩
 ·obtain ⟨g,g1,a,ty,b,e,_⟩:=h.reaches.2.2 i hi
  obtain ⟨f,r,q,v,y,T,U,F,_⟩:=B3 i hi
  exact ⟨g,g1,a,ty,b,e,Cs g1 f,Cs g1 r,Cs g1 q,Cs g1 v,Cs g1 y,Cs g1 T,Cs g1 U,Cs g1 F⟩
 ·obtain ⟨g,g1,a,ty,b,e,j,_,t⟩:=h.farms.2.2 i hi
  exact ⟨g,g1,a,ty,b,e,j,Cs g1 (B4 i hi).1,t⟩
 ·obtain ⟨g,g1,a,ty,b,e,j,_,_,_,t,o⟩:=h.rots.2.2 i hi
  obtain ⟨f,u⟩:=AW.split (l:=AL (F5 L.rots i)) (m:=[(x.rots[i].flow,(0:Int)),(x.rots[i].frm,0),(x.rots[i].to,0)]) rfl (B5 i hi)
  obtain ⟨f,r,q,_⟩:=f
  have C:=Cz _ (fun k (d:BM)=> [(d.len,(0:Int))]) x.rots[i].turns _ o.1 (fun _ _=>rfl) u
  refine ⟨g,g1,a,ty,b,e,j,Cs g1 f,Cs g1 r,Cs g1 q,t,o.1,o.2.1,fun k u=>?_⟩
  obtain ⟨g,g1,a,ty,b,_⟩:=o.2.2 k u
  exact ⟨g,g1,a,ty,b,Cs g1 (C k u).1⟩
 ·obtain ⟨g,g1,a,ty,b,e,j,t,K,_⟩:=h.rights.2.2 i hi
  obtain ⟨f,r,q,v,y,_⟩:=B i hi
  exact ⟨g,g1,a,ty,b,e,j,t,K,Cs g1 f,Cs g1 r,Cs g1 q,Cs g1 v,Cs g1 y⟩
 ·obtain ⟨g,g1,a,ty,b,e,j,_⟩:=h.duties.2.2 i hi
  exact ⟨g,g1,a,ty,b,e,j,Cs g1 (D i hi).1⟩
end
def Hn(L:BL)(k b o:Nat)(lt:Int):Prop:=(Cw L)[k]?=some #[.pointer (some ⟨b,o,none⟩),.int .i64 lt]
structure Py (N:Nat->Prop) (W4:World) (L:BL) (x:AA):Prop where
 epos:∀j b o lt,Hn L j b o lt->I9 W4 b o
 old:∀b,N b->b < W4.heap.size∧∀j o lt,¬ Hn L j b o lt
 val:∀j b o lt,Hn L j b o lt->∀h:j < (Bb x).length,∃c,W4.rangeAt b o c∧Bh N W4 (Bb x)[j].1 c
structure Pz (W4:World) (L:BL) (x:AA) (k:Nat) (O:Nat->Prop) (W:World):Prop where
 os:W.os=W4.os
 tape:W.tape=W4.tape
 output:W.output=W4.output
 size:W4.heap.size<=W.heap.size
 own:∀b,O b->W4.heap.size<=b
 cells:∀b q,b < W4.heap.size->(∀j o lt,j < k->Hn L j b o lt->q≠o+5)->W.cell? ⟨b,q,none⟩=W4.cell? ⟨b,q,none⟩
 ty:∀b t,Ty W4 b t->Ty W b t
 old:∀b,b < W4.heap.size->(∀j o lt,j < k->¬ Hn L j b o lt)->W.heap[b]?=W4.heap[b]?
 done:∃M:Nat->Prop,(∀b,M b->¬ O b∧W4.heap.size<=b∧b < W.heap.size)∧∀j b o lt,j < k->Hn L j b o lt->∀h:j < (Bb x).length,b < W4.heap.size∧∃a c,W.cell? ⟨b,o+5,none⟩=some (.slice a ((Bb x)[j].1).args.length c)∧EA W M a 0 ((Bb x)[j].1).args
section
variable{N:NP}{W4 W w':World}{L:BL}{x:AA}{k b o:Nat}{lt:Int}{O:NP}
theorem Pz.start(W4:World)(L:BL)(x:AA):Pz W4 L x 0 (fun _=>False) W4:=
 ⟨rfl,rfl,rfl,ye _,fun _ h=>h.elim,fun _ _ _ _=>rfl,fun _ _ h=>h,fun _ _ _=>rfl,fun _=>False,fun _ h=>h.elim,fun j _ _ _ a=>by omega⟩
theorem Pz.stays:Ep (Pz W4 L x):=by
 intro k O W B W' h u p r y m l
 have d:∀b,b < W4.heap.size->W'.heap[b]?=W.heap[b]?:=fun b hb=>m b (fun e=>by have:=h.own b e;omega) (yk hb h.size)
 obtain ⟨M,m1,n⟩:=h.done
 refine ⟨p.trans h.os,r.trans h.tape,y.trans h.output,yo h.size u,fun b hb=>?_,fun b q hb i=>(Ap (d b hb)).trans (h.cells b q hb i),fun b t hb=>(h.ty b t hb).same (d b hb.lt),fun b hb i=>(d b hb).trans (h.old b hb i),M,fun b hb=>?_,fun j b o lt z v hl=>?_⟩
 ·rcases l b hb with h1|h1
  ·exact h.own b h1
  ·have:=h.size;omega
 ·obtain ⟨n1,n2,A⟩:=m1 b hb
  refine ⟨fun e=>?_,n2,by omega⟩
  rcases l b e with h1|h1
  ·exact n1 h1
  ·omega
 ·obtain ⟨f,a,c,s,w⟩:=n j b o lt z v hl
  exact ⟨f,a,c,(Ap (d b f)).trans s,w.same (fun _ h _=>h) (fun c hc g=>m c (m1 c hc).1 g)⟩
theorem Pz.read(hc:Py N W4 L x)(h:Pz W4 L x k O W)(t:Hn L k b o lt)(hl:k < (Bb x).length):
  ∃M:NP,(∀c,M c->N c∨(W4.heap.size<=c∧c < W.heap.size))∧∃cs,W.rangeAt b o cs∧Bh M W (Bb x)[k].1 cs:=by
 obtain ⟨c,c1,c2⟩:=hc.val k b o lt t hl
 obtain ⟨a,cap,rfl,e1,e2,R⟩:=c2.cells
 obtain ⟨H,r1,r2,F,D,J⟩:=BZ c1
 have l:=(hc.epos k b o lt t).lt
 have hN:∀c,N c->W.heap[c]?=W4.heap[c]?:=fun c g=>h.old c (hc.old c g).1 (fun j o lt _=>(hc.old c g).2 j o lt)
 have d:∀i,i < 5->W.cell? (aV b (o+i))=W4.cell? (aV b (o+i)):=fun i hi=>h.cells b _ l (fun j z e _ f s=>by
  have:=(hc.epos k b o lt t).uniq (hc.epos j b z e f) (j:=i) (j':=5) (by omega) (by omega) s
  omega)
 obtain ⟨M,m1,I⟩:=h.done
 by_cases r:∃j e,j < k∧Hn L j b o e
 ·obtain ⟨j,e,B,f⟩:=r
  have p:j < (Bb x).length:=by omega
  obtain ⟨_,Q,C,E,G⟩:=I j b o e B f p
  obtain ⟨K,y,m⟩:=hc.val j b o e f p
  have A:K=[iV (Bb x)[k].1.op,iV (Bb x)[k].1.n,iV (Bb x)[k].1.u,.string (Bb x)[k].1.rn,iV (Bb x)[k].1.ri,.slice a (Bb x)[k].1.args.length cap]:=by
   refine zw (by rw[m.len];rfl) fun q P w=>?_
   have h1:=y q _ (yl P)
   have h2:=c1 q _ (yl w)
   rw[h1] at h2
   exact yh h2
  subst A
  have s:(Bb x)[j].1=(Bb x)[k].1:=S3 _ m c2
  rw[s] at E G
  refine ⟨fun c=>N c∨M c,fun c hc=>hc.imp id (fun v=>(m1 c v).2),_,Ac ((d 0 (by omega)).trans H) (Ac ((d 1 (by omega)).trans r1) (Ac ((d 2 (by omega)).trans r2) (Ac ((d 3 (by omega)).trans F) (Ac ((d 4 (by omega)).trans D) (CE E))))),Bh.mk' e1 e2 (G.Xy (fun c v _=>.inr v))⟩
 ·have h5:W.cell? (aV b (o+5))=W4.cell? (aV b (o+5)):=h.cells b _ l (fun j z e B f s=>by
   have:=(hc.epos k b o lt t).uniq (hc.epos j b z e f) (j:=5) (j':=5) (by omega) (by omega) s
   obtain ⟨_,rfl⟩:=this
   exact r ⟨j,e,B,f⟩)
  exact ⟨N,fun c hc=>.inl hc,_,Ac ((d 0 (by omega)).trans H) (Ac ((d 1 (by omega)).trans r1) (Ac ((d 2 (by omega)).trans r2) (Ac ((d 3 (by omega)).trans F) (Ac ((d 4 (by omega)).trans D) (CE (h5.trans J)))))),c2.same (fun _ h=>h) hN⟩
theorem Pz.next(hc:Py N W4 L x)(h:Pz W4 L x k O W)(r:Hn L k b o lt)(hl:k < (Bb x).length)(C:∀b,O b->b < W.heap.size)(d:X6 W b o (Bb x)[k].1.args w'):Pz W4 L x (k+1) O w'∧Cd O W w':=by
 obtain ⟨l,P,U,a,cap,S,V⟩:=d
 have F:=(hc.epos k b o lt r).lt
 have Y:=h.size
 have v:∀c,W4.heap.size<=c->c < W.heap.size->w'.heap[c]?=W.heap[c]?:=fun c h1 h2=>l.block c h2 (fun e=>by cases e;omega)
 obtain ⟨M,m1,T⟩:=h.done
 refine ⟨⟨l.os.trans h.os,l.tape.trans h.tape,l.output.trans h.output,yo Y l.size,h.own,fun c q d n=>?_,fun c t E=>?_,fun c d n=>?_,fun c=>M c∨(W.heap.size<=c∧c < w'.heap.size),fun c m=>?_,fun j b' y p K f z=>?_⟩,l.size,fun c D=>v c (h.own c D) (C c D)⟩
 ·by_cases i:c=b
  ·subst i
   rw[P q (n k o lt (by omega) r),h.cells c q d (fun j o lt K=>n j o lt (by omega))]
  ·rw[K1 l (by omega) i,h.cells c q d (fun j o lt K=>n j o lt (by omega))]
 ·by_cases i:c=b
  ·subst i;exact U t (h.ty c t E)
  ·exact (h.ty c t E).same (l.block c (h.ty c t E).lt (fun e=>i (by cases e;rfl)))
 ·have i:c≠b:=fun e=>n k o lt (by omega) (e▸r)
  rw[l.block c (by omega) (fun e=>i (by cases e;rfl)),h.old c d (fun j o lt K=>n j o lt (by omega))]
 ·rcases m with m|m
  ·obtain ⟨n1,n2,n3⟩:=m1 c m
   exact ⟨n1,n2,by have:=l.size;omega⟩
  ·exact ⟨fun D=>by have:=C c D;omega,by omega,m.2⟩
 ·have s:EA w' (fun c=>M c∨(W.heap.size<=c∧c < w'.heap.size)) a 0 (Bb x)[k].1.args:=V.same (fun c h1 h2=>.inr ⟨h1,h2⟩) (fun _ _ _=>rfl)
  by_cases g:b'=b∧y=o
  ·obtain ⟨rfl,rfl⟩:=g
   obtain ⟨c,c1,c2⟩:=hc.val k b' y lt r hl
   obtain ⟨X,H,w⟩:=hc.val j b' y p f z
   have J:X=c:=by
    refine zw (by rw[w.len,c2.len]) fun q n G=>?_
    have h1:=H q _ (yl n)
    have h2:=c1 q _ (yl G)
    rw[h1] at h2
    exact yh h2
   subst J
   have he:(Bb x)[j].1=(Bb x)[k].1:=S3 _ w c2
   rw[he]
   exact ⟨F,a,cap,S,s⟩
  ·have I:j < k:=by
    rcases zV j k with R|R
    ·exact R
    ·exfalso
     obtain rfl:j=k:=by omega
     unfold Hn at r f
     rw[r] at f
     simp only[yZ,qp,zq,xV,qv,and_true] at f
     exact g ⟨f.1.1.symm,f.1.2.symm⟩
   obtain ⟨B,a',u,Q,Z⟩:=T j b' y p I f z
   refine ⟨B,a',u,?_,Z.same (fun c m _=>.inl m) (fun c m d=>v c (m1 c m).2.1 d)⟩
   by_cases A:b'=b
   ·subst A
    rw[P _ (fun e=>g ⟨rfl,by omega⟩)];exact Q
   ·rw[K1 l (by have:=(hc.epos j b' y p f).lt;omega) A];exact Q
end
section
variable{N:NP}{E:Int->Ex->Nat->Nat->Prop}{R:Int->Rf->Nat->Nat->Prop}{w W:World}{L:BL}{x:AA}
theorem CT.ok(h:CT N E R w L x):L.Ok:=by
 refine ⟨h.lets.ok,h.crops.ok,h.reaches.ok,h.farms.ok,h.rots.ok,h.rights.ok,h.duties.ok,fun i hi=>?_⟩
 obtain ⟨_,_,_,_,_,_,_,_,_,_,_,a⟩:=h.rots.2.2 i (by rw[<-h.rots.1];exact hi)
 exact a.ok
theorem CT.heads(h:CT N E R w L x){Bs:Nat}(d:∀b o,Pe w b o->W.cell? ⟨b,o,none⟩=w.cell? ⟨b,o,none⟩)(c:W.cell? ⟨Bs,0,none⟩=some (.pointer (some ⟨L.s,0,none⟩))):JW L Bs W:=by
 have a:∀o,GK 35 o=0->W.cell? (aV L.s o)=w.cell? (aV L.s o):=fun o e=>d _ _ ⟨_,h.ty,e⟩
 refine ⟨c,(a _ rfl).trans h.hlets,(a _ rfl).trans h.hcrops,(a _ rfl).trans h.hreaches,(a _ rfl).trans h.hfarms,(a _ rfl).trans h.hrots,(a _ rfl).trans h.hrights,(a _ rfl).trans h.hduties,fun i hi=>?_⟩
 obtain ⟨g,g1,_,ty,_,_,_,_,_,_,hc,_⟩:=h.rots.2.2 i (by rw[<-h.rots.1];exact hi)
 rw[BE g1,yD]
 exact (d _ _ (Es ty GL i 22 rfl)).trans hc
theorem Om{cs:LV}(h:Ba N w L cs x):∀v∈cs,v.oneCell'=true:=by
 obtain ⟨c0,c1,c2,rfl,c,g1,b⟩:=h.cells
 refine An rfl (Ai (A8 c) (Ai (A8 g1) (Ai (A8 b) ?_)))
 intro v a
 simp at a
 rcases a with rfl|rfl|rfl|rfl|rfl|rfl|rfl<;>rfl
theorem Jf(h:AW (Wx N E w) (Cw L) (Bb x)){j b o:Nat}{lt:Int}(c:Hn L j b o lt):N b∧I9 w b o∧∀f:j < (Bb x).length,E (Bb x)[j].2 (Bb x)[j].1 b o:=by
 unfold Hn at c
 obtain ⟨hl,d⟩:=yA.1 c
 have a:j < (Bb x).length:=by rw[<-h.length];exact hl
 obtain ⟨b',e,h1,h2,h3,h4⟩:=h.get j hl a
 rw[d] at h1
 simp only[qp,zq,xV,yZ,qv,and_true] at h1
 obtain ⟨⟨rfl,rfl⟩,_⟩:=h1
 exact ⟨h2,h3,fun _=>h4⟩
theorem TZ(h:AW (Wx N E w) (Cw L) (Bb x)){j:Nat}(a:j < (Cw L).length):∃b o lt,Hn L j b o lt:=by
 obtain ⟨b,o,h1,_⟩:=h.get j a (by rw[<-h.length];exact a)
 exact ⟨b,o,_,by unfold Hn;rw[yl a,h1]⟩
theorem Va{W4:World}{O:NP}{B:NP}{H:NP}(h:AW (Wx N E W4) (Cw L) (Bb x))(hc:Py H W4 L x)(v:Pz W4 L x (Cw L).length O W)(w:∀b,W4.heap.size<=b->¬ O b->B b):
  AW (TY fun (_:Int) e b o=>∃c,W.rangeAt b o c∧Jr W B e c) (Cw L) (Bb x):=by
 have n:∀(l:List (Array Value)) (m:List Kp),l.length=m.length->(∀i (h1:i < l.length) (h2:i < m.length),TY (fun (_:Int) e b o=>∃c,W.rangeAt b o c∧Jr W B e c) l[i] m[i])->AW (TY fun (_:Int) e b o=>∃c,W.rangeAt b o c∧Jr W B e c) l m:=by
  intro l
  induction l with
  |nil=>intro m f _;cases m with
   |nil=>trivial
   |cons=>simp at f
  |cons a l ih=>intro m f s;cases m with
   |nil=>simp at f
   |cons e m=>exact ⟨s 0 (by simp) (by simp),ih m (by simpa using f) (fun i h1 h2=>s (i+1) (by simpa using h1) (by simpa using h2))⟩
 refine n _ _ h.length fun i h1 h2=>?_
 obtain ⟨b,o,u,K,P,Q⟩:=h.get i h1 h2
 have p:Hn L i b o (Bb x)[i].2:=by unfold Hn;rw[yl h1,u]
 obtain ⟨M,m1,y⟩:=v.done
 obtain ⟨k,a,cap,A,F⟩:=y i b o _ h1 p h2
 obtain ⟨c,c1,c2⟩:=hc.val i b o _ p h2
 obtain ⟨T,t,rfl,e1,e2,S⟩:=c2.cells
 obtain ⟨G,r1,r2,C,z,J⟩:=BZ c1
 have d:∀q,q < 5->W.cell? (aV b (o+q))=W4.cell? (aV b (o+q)):=fun q R=>v.cells b _ k (fun j D g _ r I=>by
  have:=(hc.epos i b o _ p).uniq (hc.epos j b D g r) (j:=q) (j':=5) (by omega) (by omega) I
  omega)
 exact ⟨b,o,u,_,Ac ((d 0 (by omega)).trans G) (Ac ((d 1 (by omega)).trans r1) (Ac ((d 2 (by omega)).trans r2) (Ac ((d 3 (by omega)).trans C) (Ac ((d 4 (by omega)).trans z) (CE A))))),Jr.mk' e1 e2 (F.same (fun b hb _=>w b (m1 b hb).2.1 (m1 b hb).1) (fun _ _ _=>rfl))⟩
theorem Jg{d:NP}{W4:World}{k:Nat}{O:NP}(hc:Py d W4 L x)(e:Pz W4 L x k O W){b q:Nat}{t:Nat}(ty:Ty W4 b t)(a:GK t q≠1):W.cell? ⟨b,q,none⟩=W4.cell? ⟨b,q,none⟩:=
 e.cells b q ty.lt (fun j o lt _ c f=>by
  obtain ⟨g,h1,h2⟩:=hc.epos j b o lt c
  obtain rfl:=ty.inj h1
  exact a (by rw[f];exact (h2 5 (by omega)).1))
end
mutual
def Vy:Ex->Ex->Bool
 |.mk op n u rn ri args,.mk op' n' u' rn' ri' args'=>decide (op=op')&&(decide (n=n')&&(decide (u=u')&&(decide (rn.toList=rn'.toList)&&(decide (ri=ri')&&(decide (args.length=args'.length)&&MO args args')))))
def MO:List Ex->List Ex->Bool
 |[],_=>true
 |_::_,[]=>true
 |e::r,e'::r'=>Vy e e'&&MO r r'
end
theorem I1{a b:ByteArray}(h:a.toList=b.toList):a=b:=by
 rw[zC,zC] at h
 cases a;cases b;simpa using h
mutual
theorem Vz:∀a b:Ex,Vy a b=true↔a=b
 |.mk op n u rn ri args,.mk op' n' u' rn' ri' args'=>by
  rw[Vy]
  simp only[ym,yR]
  constructor
  ·rintro ⟨rfl,rfl,rfl,h4,rfl,h6,c⟩
   obtain rfl:=I1 h4
   obtain rfl:=(Kj args args' h6).1 c
   rfl
  ·intro h
   injection h with h1 h2 h3 h4 h5 h6
   subst h1 h2 h3 h4 h5 h6
   exact ⟨rfl,rfl,rfl,rfl,rfl,rfl,(Kj args args rfl).2 rfl⟩
theorem Kj:∀a b:List Ex,a.length=b.length->(MO a b=true↔a=b)
 |[],b,h=>by
  obtain rfl:b=[]:=yX.1 h.symm
  simp[MO]
 |e::r,[],h=>by simp at h
 |e::r,e'::r',h=>by
  rw[MO,ym,Vz e e',Kj r r' (by simpa using h)]
  simp
end
theorem OS:∀(e:Ex) {e':Ex} {N:NP} {w:World} {cs C:LV},Bh N w e cs->Bh N w e' C->(∀b,N b->b < w.heap.size)->
  Calls Try.prog 63 #[.agg cs.toArray,.agg C.toArray] w fun x w'=>x=.returned (.bool (Vy e e'))∧Below w.heap.size w w':=by
 refine I4 fun op j u rn ri args ih=>?_
 intro e' N w cs C h h' hN
 obtain ⟨v,t,T,a0,z,c⟩:=e'
 rw[Bh] at h h'
 obtain ⟨a,cap,rfl,hl,hr,G⟩:=h
 obtain ⟨Q,f,rfl,a6,ae,r⟩:=h'
 have X:=ya G
 have O:=ya r
 have W:=ya hN
 have IH:=ya ih
 rw[Vy]
 generalize hm:args.length=m at hl ⊢
 generalize Y:c.length=S at a6 ⊢
 have Hm:=ya hm
 have a7:=ya Y
 generalize hq:MO args c=q
 have HQ:=ya hq
 clear G r hN ih hm Y hq
 go_enter Try.func63,Try.ntmps63
 have d:=ya (((yc w.heap.size w).alloc (ye _) (.cells #[iV op,iV j,iV u,.string rn,iV ri,.slice a m cap] 26)).alloc (by simp) (.cells #[iV v,iV t,iV T,.string a0,iV z,.slice Q S f] 26))
 obtain h1|rfl:(op !=v)=true∨op=v:=by
  by_cases h:op=v
  ·exact .inr h
  ·exact .inl (by simpa using h)
 ·have g:decide (op=v)=false:=by simpa using h1
  simp only[g,xE]
  clear g
  go_wp2
  go_ret
  exact ⟨rfl,d.o⟩
 obtain h2|rfl:(j !=t)=true∨j=t:=by
  by_cases h:j=t
  ·exact .inr h
  ·exact .inl (by simpa using h)
 ·have g:decide (j=t)=false:=by simpa using h2
  simp only[g,xE,xT]
  clear g
  go_wp2
  go_ret
  exact ⟨rfl,d.o⟩
 obtain h3|rfl:(u !=T)=true∨u=T:=by
  by_cases h:u=T
  ·exact .inr h
  ·exact .inl (by simpa using h)
 ·have g:decide (u=T)=false:=by simpa using h3
  simp only[g,xE,xT]
  clear g
  go_wp2
  go_ret
  exact ⟨rfl,d.o⟩
 by_cases h4:rn.toList=a0.toList
 rotate_left
 ·simp only[h4,decide_false,xE,xT]
  go_wp2
  go_ret
  exact ⟨rfl,d.o⟩
 obtain rfl:=I1 h4
 clear h4
 obtain h5|rfl:(ri !=z)=true∨ri=z:=by
  by_cases h:ri=z
  ·exact .inr h
  ·exact .inl (by simpa using h)
 ·have g:decide (ri=z)=false:=by simpa using h5
  simp only[g,xE,xT]
  clear g
  go_wp2
  go_ret
  exact ⟨rfl,d.o⟩
 obtain h6|rfl:((m:Int) !=(S:Int))=true∨m=S:=by
  by_cases h:m=S
  ·exact .inr h
  ·exact .inl (by simp only[qq,ne_eq];omega)
 ·have g:decide (m=S)=false:=by simp only[qq,ne_eq] at h6;simp only[xz];omega
  simp only[g,xE,xT]
  clear g
  go_wp2
  go_ret
  exact ⟨rfl,d.o⟩
 simp only[decide_true,Bool.true_and]
 have ad:((m:Int) !=(m:Int))=false:=by simp
 go_wp2
 have a8:=ya (World.alloc_heap_new w (.cells #[iV op,iV j,iV u,.string rn,iV ri,.slice a m cap] 26))
 obtain ⟨E,D⟩:∃E,E=(w.alloc (.cells #[iV op,iV j,iV u,.string rn,iV ri,.slice a m cap] 26)).alloc (.cells #[iV op,iV j,iV u,.string rn,iV ri,.slice Q m f] 26):=⟨_,rfl⟩
 have B:Hid (E.cell? (aV w.heap.size 5)=some (.slice a m cap)∧E.cell? (aV (w.heap.size+1) 5)=some (.slice Q m f)∧E.heap.size=w.heap.size+2):=ya (by
  have h1:=World.alloc_heap_new w (.cells #[iV op,iV j,iV u,.string rn,iV ri,.slice a m cap] 26)
  have h2:=World.alloc_heap_new (w.alloc (.cells #[iV op,iV j,iV u,.string rn,iV ri,.slice a m cap] 26)) (.cells #[iV op,iV j,iV u,.string rn,iV ri,.slice Q m f] 26)
  have h3:=(((yc (w.heap.size+1) _).alloc (by simp) (.cells #[iV op,iV j,iV u,.string rn,iV ri,.slice Q m f] 26):Below (w.heap.size+1) (w.alloc (.cells #[iV op,iV j,iV u,.string rn,iV ri,.slice a m cap] 26)) _)).block w.heap.size (zK _)
  have g:(w.alloc (.cells #[iV op,iV j,iV u,.string rn,iV ri,.slice a m cap] 26)).heap.size=w.heap.size+1:=by simp
  rw[g] at h2
  rw[<-D] at h2 h3
  refine ⟨?_,?_,?_⟩
  ·simp only[World.cell?,h3,h1];rfl
  ·simp only[World.cell?,h2];rfl
  ·rw[D];simp)
 rw[<-D] at d ⊢
 clear D
 have R:=ya (yc E.heap.size E)
 have a1:Hid (MO (args.drop 0) (c.drop 0)=q):=ya HQ.o
 go_loopw [5] (fun iv wr=>∃i:Nat,iv=iV i∧i<=m∧Hid (MO (args.drop i) (c.drop i)=q)∧Hid (Below E.heap.size E wr)) (fun iv _=>m - (intOf iv).toNat)
 case atStart=>exact ⟨0,rfl,yv _,a1,R⟩
 case round=>
  clear R a1 a8
  obtain ⟨i,rfl,hi,HS,F⟩:=hrel
  have ac:wr.cell? (aV w.heap.size 5)=some (.slice a m cap):=(F.o.cell (p:=(aV w.heap.size 5)) (by have:=B.o.2.2;simp only;omega)).trans B.o.1
  have ab:wr.cell? (aV (w.heap.size+1) 5)=some (.slice Q m f):=(F.o.cell (p:=(aV (w.heap.size+1) 5)) (by have:=B.o.2.2;simp only;omega)).trans B.o.2.1
  by_cases Z:i < m
  ·have L:i < args.length:=by rw[Hm.o];exact Z
   have H:i < c.length:=by rw[a7.o];exact Z
   have a2:(i:Int) < (m:Int):=by omega
   obtain ⟨b,o,cs,rfl,aa,U,P⟩:=E7 X.o i L
   obtain ⟨b',o',C,rfl,V,I,A⟩:=E7 O.o i H
   have k:=d.o.trans (F.o.mono d.o.size)
   have M:=A1 U (k.block b (W.o b aa))
   have n:=A1 I (k.block b' (W.o b' V))
   rw[yD] at M n
   obtain ⟨ax,cx,rfl,_⟩:=P.cells
   obtain ⟨ay,cy,rfl,_⟩:=A.cells
   obtain ⟨c0,c1,c2,c3,c4,c5⟩:=BZ M
   obtain ⟨d0,d1,d2,d3,d4,d5⟩:=BZ n
   have HC:=ya (IH.o args[i] (yw L) (e':=c[i]) (w:=wr.drew) (Bh.same (fun b h=>h) (DC W.o k.drew) P) (Bh.same (fun b h=>h) (DC W.o k.drew) A) (fun b h=>yk (W.o b h) k.drew.size))
   have K:Hid ((Vy args[i] c[i]&&MO (args.drop (i+1)) (c.drop (i+1)))=q):=ya (by
    have h:=HS.o
    rw[DW L,DW H,MO] at h
    exact h)
   generalize args[i]=x at*
   generalize c[i]=y at*
   generalize Vy x y=s at HC K
   clear P A U I M n k
   go_upto_region 6 with fail
   go_still_tail 10,(by kernel_rfl)
   change wpList _ _ _ _ _ wr.drew
   cases s
   ·have HF:Hid (false=q):=ya K.o
    go_wp2_with (first|(go_at_call 63;refine HC.o.mono ?_;rintro e w2 ⟨rfl,l⟩;have J:=ya (F.o.drew.trans (l.mono F.o.drew.size));clear l))
    go_ret
    exact ⟨yz (fun b=>Ending.returned (Value.bool b)) HF.o,d.o.trans (J.o.mono d.o.size)⟩
   ·have HT:Hid (MO (args.drop (i+1)) (c.drop (i+1))=q):=ya K.o
    go_wp2_with (first|(go_at_call 63;refine HC.o.mono ?_;rintro e w2 ⟨rfl,l⟩;have J:=ya (F.o.drew.trans (l.mono F.o.drew.size));clear l))
    exact ⟨⟨i+1,by push_cast;rfl,by omega,HT,J⟩,by simp[intOf];omega⟩
  ·obtain rfl:i=m:=by omega
   have a2:decide ((i:Int) < (i:Int))=false:=by simp
   have HF:Hid (true=q):=ya (by
    have h:=HS.o
    rw[<-Hm.o,zl,MO] at h
    exact h)
   go_wp2
   go_ret
   exact ⟨yz (fun b=>Ending.returned (Value.bool b)) HF.o,d.o.trans (F.o.mono d.o.size)⟩
end Go.Proofs.Ytghepahgkcigpaa
