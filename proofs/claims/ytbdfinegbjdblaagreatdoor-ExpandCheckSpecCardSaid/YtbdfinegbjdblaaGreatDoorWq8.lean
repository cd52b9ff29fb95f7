/- Parts of the proof, in short words: Rp Rr Gh Gc Gd Ge Gf Gg -/
import Derived.Test.YtbdfinegbjdblaaGreatDoorWq0
import Derived.Test.YtbdfinegbjdblaaGreatDoorWq7
import Derived.Deep.RegionHeld2
import Derived.Deep.Cut
import Derived.StillTailTactics
import Derived.BigRegion
import Derived.Laws.StructEq
set_option maxRecDepth 100000
set_option maxHeartbeats 16000000
set_option linter.unusedSimpArgs false
namespace Go.Proofs.YtbdfinegbjdblaaGreatDoor
open Go.RowKit Tryz
theorem YV{w:World}{a:ByteArray}(b:a.size<=maxLen):BH (w.alloc (.cells #[.string a] 9)) ⟨some ⟨w.heap.size,0,none⟩,1,1⟩ 1 0 [a]:=by
 refine ⟨rfl,by simp,λi hi=>?_⟩
 obtain rfl:i=0:=by simpa using hi
 have h:=World.alloc_heap_new w (.cells #[.string a] 9)
 refine ⟨w.heap.size,0,[.string a],rfl,by simp,rfl,Co ?_,by simp[Value.oneCell'],rfl,b⟩
 simp only[World.cell?,h]
 rfl
theorem IG{f:FuncId}{args:Array Value}{w:World}{b:Bool}(h:Calls prog f args w (DP w b))(hb:b=true):Calls prog f args w λe w'=>e=.returned (.tuple #[])/\Below w.heap.size w w':=
 h.mono λe w' a=>by rw[hb] at a;exact ⟨a.2,a.1⟩
theorem Lf{f:FuncId}{args:Array Value}{w:World}{b:Bool}(h:Calls prog f args w (DP w b))(hb:b=false):Calls prog f args w λe w'=>e=.panicked (Fg 170)/\Below w.heap.size w w':=
 h.mono λe w' a=>by rw[hb] at a;exact ⟨a.2,a.1⟩
theorem VY{f:FuncId}{args:Array Value}{w:World}{b c:Bool}(h:Calls prog f args w (OS w b))(hb:b=c):Calls prog f args w (OS w c):=hb▸h
theorem ZC{Q:QT}{w V:World}{x:AM}{L:BQ}{cs:LV}{N:NP}(hQ:Mq Q w x)(X:Hv w x L cs N V)(hg:GV V)(hd:∀e∈Ba x,BB e.1<=1000000)
 (u0 u4 u5 u6 u7 u8 u9 ev dj et en f3 eb ej fm g3 dh e3 e5 dy g6 f6 f7 dv eu gb fe dq e0 e6 f1 ed ew e9 f2 fl e2 di fa ft f9 er g8 dt du dm f8 ek eh gh e4 ez ex dz ee fy em fv f4 fh fp dl ey eo f5 f0 fg e1 g5 fz e7 g7 fd ef dn ea fk fu es dr ff ei g2 fx dg ga fq dp eg ec fw dw gi el ep dx dk b3 dc ay ak cd dd d9 d2 bm ao ae cp ci b9 ce ba d6 cy av d8 ap bv bw c8 bp bh cz ch cb d0 ai bj cr am cn aq an au cf ah bk bb c9 cj af bq bg aw ck da d7 bi b5 d1 cm cg de cw cl bd bn bt be ca bo az ad cv db cq d5 aj al ax:Value):
  Fv 63 prog (Gj 2 (Tryz.f63.body.getD .skip)) Q {tmps:=#[u0,.pointer (some ⟨w.heap.size,0,none⟩),.pointer (some ⟨w.heap.size+1,0,none⟩),.pointer (some ⟨w.heap.size+2,0,none⟩),u4,u5,u6,u7,u8,u9,ev,dj,et,en,f3,eb,ej,fm,g3,dh,e3,e5,dy,g6,f6,f7,dv,eu,gb,fe,dq,e0,e6,f1,ed,ew,e9,f2,fl,e2,di,fa,ft,f9,er,g8,dt,du,dm,f8,ek,eh,gh,e4,ez,ex,dz,ee,fy,em,fv,f4,fh,fp,dl,ey,eo,f5,f0,fg,e1,g5,fz,e7,g7,fd,ef,dn,ea,fk,fu,es,dr,ff,ei,g2,fx,dg,ga,fq,dp,eg,ec,fw,dw,gi,el,ep,dx,dk,b3,dc,ay,ak,cd,dd,d9,d2,bm,ao,ae,cp,ci,b9,ce,ba,d6,cy,av,d8,ap,bv,bw,c8,bp,bh,cz,ch,cb,d0,ai,bj,cr,am,cn,aq,an,au,cf,ah,bk,bb,c9,cj,af,bq,bg,aw,ck,da,d7,bi,b5,d1,cm,cg,de,cw,cl,bd,bn,bt,be,ca,bo,az,ad,cv,db,cq,d5,aj,al,ax],defers:=[KJ w.heap.size]} V:=by
 have F:=yb (X.at.nms λ_ h=>h)
 have f:=yb X.cells
 have W:Hid (w.heap.size < V.heap.size):=yb (by have:=X.size;omega)
 have HQ:=yb hQ;have HP:=yb X;have E:=yb hg
 have HS:Hid (CQ (λb=>b < V.heap.size) V {L with s:=w.heap.size} cs x):=yb (by have h:=X.at;exact ⟨h.name,h.cells,h.lets,h.crops,h.reaches,h.farms,h.rots,h.rights,h.duties⟩)
 have a7:=yb X.range
 have HD:=yb hd
 have ac:Hid (x.name.size<=maxLen):=yb X.src.name
 have I:Hid (∀(c:Int) tm wr,JL w.heap.size tm->Below V.heap.size V wr->AU x=c->c≠0->Q (.panic (Fg c)) {tmps:=tm,defers:=[KJ w.heap.size]} wr):=yb (λc tm wr hv hb hc hn=>by
  subst hc
  exact hQ.fail tm wr hv (X.up (hb.mono X.size)).amid hn)
 clear hQ X hg hd
 unfold KJ
 cases hf:C4 x with
 |false=>
  have HF:=yb hf
  clear hf
  refine Aj (Aa ?_)
  go_wp2_with (first|(go_at_call 73;refine (VY (L8 HS.o a7.o (λ_ h=>h) W.o HD.o) HF.o).mono ?_;rintro e w2 ⟨K,rfl⟩;have R:=yb K;clear K))
  exact I.o 2 _ _ ⟨rfl,rfl⟩ R.o (by unfold AU;rw[HF.o];rfl) (by decide)
 |true=>
  have HF:=yb hf
  clear hf
  have d:Hid (∀tm wr,JL w.heap.size tm->Below V.heap.size V wr->DL x=false->Q (.panic (Fg 170)) {tmps:=tm,defers:=[KJ w.heap.size]} wr):=yb (λtm wr hv hb hn=>I.o 170 tm wr hv hb (by unfold AU;rw[HF.o,hn];rfl) (by decide))
  refine Aj (Aa ?_)
  go_wp2_with (first|(go_at_call 73;refine (VY (L8 HS.o a7.o (λ_ h=>h) W.o HD.o) HF.o).mono ?_;rintro e w2 ⟨K,rfl⟩;have R:=yb K;clear K))
  have hc:w2.cell? (aV w.heap.size 0)=some (.string x.name):=(R.o.cell (p:=(aV w.heap.size 0)) W.o).trans f.o.name
  have cc:Hid (BH (w2.alloc (.cells #[.string x.name] 9)) ⟨some (aV w2.heap.size 0),1,1⟩ 1 0 [x.name]):=yb (YV ac.o)
  have T:Hid (Below V.heap.size V (w2.alloc (.cells #[.string x.name] 9))):=yb (R.o.alloc R.o.size _)
  have cx:Hid (GV (w2.alloc (.cells #[.string x.name] 9))):=yb (E.o.below T.o E.o.1)
  cases Y:AN x.name with
  |false=>
   have B:=yb Y
   clear Y
   refine Aj (Aa ?_)
   go_wp2_with (first|(go_at_call 74;refine (Lf (NX (h:=⟨some (aV w2.heap.size 0),1,1⟩) cc.o cx.o) (by simp[B.o])).mono ?_;rintro e w3 ⟨rfl,U⟩;have q:=yb (T.o.trans (U.mono T.o.size));clear U))
   exact d.o _ _ ⟨rfl,rfl⟩ q.o (by unfold DL;rw[B.o];simp)
  |true=>
   have B:=yb Y
   clear Y
   refine Aj (Aa ?_)
   go_wp2_with (first|(go_at_call 74;refine (IG (NX (h:=⟨some (aV w2.heap.size 0),1,1⟩) cc.o cx.o) (by simp[B.o])).mono ?_;rintro e w3 ⟨rfl,U⟩;have q:=yb (T.o.trans (U.mono T.o.size));clear U))
   clear hc
   have hc:w3.cell? (aV w.heap.size 19)=some (.slice L.lets.a L.lets.n L.lets.c):=(q.o.cell (p:=(aV w.heap.size 19)) W.o).trans f.o.lets
   have a6:=yb (F.o.lets.up q.o)
   have b0:Hid (GV w3):=yb (E.o.below q.o E.o.1)
   cases g:(x.lets.map (·.name)).all AN with
   |false=>
    have u:=yb g
    clear g
    refine Aj (Aa ?_)
    go_wp2_with (first|(go_at_call 76;refine (Lf (NV a6.o b0.o) u.o).mono ?_;rintro e w4 ⟨rfl,S⟩;have m:=yb (q.o.trans (S.mono q.o.size));clear S))
    exact d.o _ _ ⟨rfl,rfl⟩ m.o (by unfold DL;rw[u.o];simp)
   |true=>
    have u:=yb g
    clear g
    refine Aj (Aa ?_)
    go_wp2_with (first|(go_at_call 76;refine (IG (NV a6.o b0.o) u.o).mono ?_;rintro e w4 ⟨rfl,S⟩;have m:=yb (q.o.trans (S.mono q.o.size));clear S))
    clear hc
    have hc:w4.cell? (aV w.heap.size 20)=some (.slice L.crops.a L.crops.n L.crops.c):=(m.o.cell (p:=(aV w.heap.size 20)) W.o).trans f.o.crops
    have Z:=yb (F.o.crops.up m.o)
    have co:Hid (GV w4):=yb (E.o.below m.o E.o.1)
    cases g:(x.crops.map (·.name)).all AN with
    |false=>
     have C:=yb g
     clear g
     refine Aj (Aa ?_)
     go_wp2_with (first|(go_at_call 78;refine (Lf (M0 Z.o co.o) C.o).mono ?_;rintro e w5 ⟨rfl,M⟩;have i:=yb (m.o.trans (M.mono m.o.size));clear M))
     exact d.o _ _ ⟨rfl,rfl⟩ i.o (by unfold DL;rw[C.o];simp)
    |true=>
     have C:=yb g
     clear g
     refine Aj (Aa ?_)
     go_wp2_with (first|(go_at_call 78;refine (IG (M0 Z.o co.o) C.o).mono ?_;rintro e w5 ⟨rfl,M⟩;have i:=yb (m.o.trans (M.mono m.o.size));clear M))
     clear hc
     have hc:w5.cell? (aV w.heap.size 21)=some (.slice L.reaches.a L.reaches.n L.reaches.c):=(i.o.cell (p:=(aV w.heap.size 21)) W.o).trans f.o.reaches
     have a1:=yb (F.o.reaches.up i.o)
     have ag:Hid (GV w5):=yb (E.o.below i.o E.o.1)
     cases g:(x.reaches.map (·.name)).all AN with
     |false=>
      have t:=yb g
      clear g
      refine Aj (Aa ?_)
      go_wp2_with (first|(go_at_call 80;refine (Lf (L5 a1.o ag.o) t.o).mono ?_;rintro e w6 ⟨rfl,J⟩;have k:=yb (i.o.trans (J.mono i.o.size));clear J))
      exact d.o _ _ ⟨rfl,rfl⟩ k.o (by unfold DL;rw[t.o];simp)
     |true=>
      have t:=yb g
      clear g
      refine Aj (Aa ?_)
      go_wp2_with (first|(go_at_call 80;refine (IG (L5 a1.o ag.o) t.o).mono ?_;rintro e w6 ⟨rfl,J⟩;have k:=yb (i.o.trans (J.mono i.o.size));clear J))
      clear hc
      have hc:w6.cell? (aV w.heap.size 22)=some (.slice L.farms.a L.farms.n L.farms.c):=(k.o.cell (p:=(aV w.heap.size 22)) W.o).trans f.o.farms
      have a2:=yb (F.o.farms.up k.o)
      have b8:Hid (GV w6):=yb (E.o.below k.o E.o.1)
      cases g:(x.farms.map (·.name)).all AN with
      |false=>
       have A:=yb g
       clear g
       refine Aj (Aa ?_)
       go_wp2_with (first|(go_at_call 82;refine (Lf (M1 a2.o b8.o) A.o).mono ?_;rintro e w7 ⟨rfl,O⟩;have j:=yb (k.o.trans (O.mono k.o.size));clear O))
       exact d.o _ _ ⟨rfl,rfl⟩ j.o (by unfold DL;rw[A.o];simp)
      |true=>
       have A:=yb g
       clear g
       refine Aj (Aa ?_)
       go_wp2_with (first|(go_at_call 82;refine (IG (M1 a2.o b8.o) A.o).mono ?_;rintro e w7 ⟨rfl,O⟩;have j:=yb (k.o.trans (O.mono k.o.size));clear O))
       clear hc
       have hc:w7.cell? (aV w.heap.size 23)=some (.slice L.rots.a L.rots.n L.rots.c):=(j.o.cell (p:=(aV w.heap.size 23)) W.o).trans f.o.rots
       have a8:=yb (F.o.rots.up j.o)
       have b7:Hid (GV w7):=yb (E.o.below j.o E.o.1)
       cases g:(x.rots.map (·.name)).all AN with
       |false=>
        have v:=yb g
        clear g
        refine Aj (Aa ?_)
        go_wp2_with (first|(go_at_call 84;refine (Lf (NW a8.o b7.o) v.o).mono ?_;rintro e w8 ⟨rfl,G⟩;have r:=yb (j.o.trans (G.mono j.o.size));clear G))
        exact d.o _ _ ⟨rfl,rfl⟩ r.o (by unfold DL;rw[v.o];simp)
       |true=>
        have v:=yb g
        clear g
        refine Aj (Aa ?_)
        go_wp2_with (first|(go_at_call 84;refine (IG (NW a8.o b7.o) v.o).mono ?_;rintro e w8 ⟨rfl,G⟩;have r:=yb (j.o.trans (G.mono j.o.size));clear G))
        clear hc
        have hc:w8.cell? (aV w.heap.size 24)=some (.slice L.rights.a L.rights.n L.rights.c):=(r.o.cell (p:=(aV w.heap.size 24)) W.o).trans f.o.rights
        have aa:=yb (F.o.rights.up r.o)
        have b4:Hid (GV w8):=yb (E.o.below r.o E.o.1)
        cases g:(x.rights.map (·.name)).all AN with
        |false=>
         have D:=yb g
         clear g
         refine Aj (Aa ?_)
         go_wp2_with (first|(go_at_call 86;refine (Lf (L6 aa.o b4.o) D.o).mono ?_;rintro e w9 ⟨rfl,P⟩;have l:=yb (r.o.trans (P.mono r.o.size));clear P))
         exact d.o _ _ ⟨rfl,rfl⟩ l.o (by unfold DL;rw[D.o];simp)
        |true=>
         have D:=yb g
         clear g
         refine Aj (Aa ?_)
         go_wp2_with (first|(go_at_call 86;refine (IG (L6 aa.o b4.o) D.o).mono ?_;rintro e w9 ⟨rfl,P⟩;have l:=yb (r.o.trans (P.mono r.o.size));clear P))
         clear hc
         have hc:w9.cell? (aV w.heap.size 25)=some (.slice L.duties.a L.duties.n L.duties.c):=(l.o.cell (p:=(aV w.heap.size 25)) W.o).trans f.o.duties
         have ab:=yb (F.o.duties.up l.o)
         have bu:Hid (GV w9):=yb (E.o.below l.o E.o.1)
         cases g:(x.duties.map (·.name)).all AN with
         |false=>
          have z:=yb g
          clear g
          refine Aj (Aa ?_)
          go_wp2_with (first|(go_at_call 88;refine (Lf (M2 ab.o bu.o) z.o).mono ?_;rintro e fj ⟨rfl,y⟩;have H:=yb (l.o.trans (y.mono l.o.size));clear y))
          exact d.o _ _ ⟨rfl,rfl⟩ H.o (by unfold DL;rw[z.o];simp)
         |true=>
          have z:=yb g
          clear g
          refine Aj (Aa ?_)
          go_wp2_with (first|(go_at_call 88;refine (IG (M2 ab.o bu.o) z.o).mono ?_;rintro e fj ⟨rfl,y⟩;have H:=yb (l.o.trans (y.mono l.o.size));clear y))
          clear hc
          have hn:DL x=true:=by
           unfold DL
           rw[B.o,u.o,C.o,t.o,A.o,v.o,D.o,z.o]
           rfl
          exact ZB HQ.o (HP.o.up (H.o.mono HP.o.size)) HF.o (by unfold AU;rw[HF.o,hn];rfl) _ _ _ _ _ _ _ _ _ _ _ _ _ _ _ _ _ _ _ _ _ _ _ _ _ _ _ _ _ _ _ _ _ _ _ _ _ _ _ _ _ _ _ _ _ _ _ _ _ _ _ _ _ _ _ _ _ _ _ _ _ _ _ _ _ _ _ _ _ _ _ _ _ _ _ _ _ _ _ _ _ _ _ _ _ _ _ _ _ _ _ _ _ _ _ _ _ _ _ _ _ _ _ _ _ _ _ _ _ _ _ _ _ _ _ _ _ _ _ _ _ _ _ _ _ _ _ _ _ _ _ _ _ _ _ _ _ _ _ _ _ _ _ _ _ _ _ _ _ _ _ _ _ _ _ _ _ _ _ _ _ _ _ _ _ _ _ _ _ _ _
def aP(w:World)(cs:LV):World:=((w.alloc (.cells cs.toArray 49)).alloc (.cells Cq.toArray 49)).alloc (.cells #[.int .i64 0] 34)
theorem XE{w:World}{x:AM}{L:BQ}{cs:LV}{N:NP}(h:CQ N w L cs x)(hN:∀b,N b->b < w.heap.size)(a:Nt x):Hv w x L cs N (aP w cs):=by
 unfold aP
 refine ⟨⟨(((yg _ _).alloc (yi _) _).alloc (by simp) _).alloc (by simp;omega) _,⟨Cq.toArray,rfl,?_⟩,⟨iV 0,?_⟩⟩,?_,h,hN,a⟩
 ·rw[yp _ _ _ (by simp)]
  have:=World.alloc_heap_new (w.alloc (.cells cs.toArray 49)) (.cells Cq.toArray 49)
  rwa [ze] at this
 ·have:=World.alloc_heap_new ((w.alloc (.cells cs.toArray 49)).alloc (.cells Cq.toArray 49)) (.cells jG 34)
  rwa [ze,ze] at this
 rw[yp _ _ _ (by simp;omega),yp _ _ _ (by simp)]
 exact World.alloc_heap_new _ _
theorem Qq{w:World}{x:AM}{L:BQ}{cs:LV}{N:NP}(h:CQ N w L cs x)(hN:∀b,N b->b < w.heap.size)(a:Nt x)(hg:GV w)(hd:∀e∈Ba x,BB e.1<=1000000):
  Calls prog 63 #[.agg cs.toArray] w (Kf w x):=by
 have j:∀(fn:Fn) (first cap:Array Value) (w:World),(Instr.makeFunc fn first cap).run prog w=.ok (.func fn first cap) w:=λ_ _ _ _=>rfl
 have c:=yb (XE h hN a)
 have g:Hid (GV (aP w cs)):=yb (hg.below c.o.amid.below hg.1)
 have i:=yb hd
 obtain ⟨c0,c1,c2,rfl,g0,g1,f⟩:=h.cells
 obtain ⟨a0,q,rfl,k⟩:=g0.cells
 obtain ⟨s,r,rfl,l⟩:=g1.cells
 obtain ⟨u,t,rfl,p⟩:=f.cells
 clear h hN a hg hd g0 g1 f k l p
 unfold AA.v at*
 simp only[yQ,yS] at c g |-
 refine Bt (n:=10) func63 rfl ?_
 have d:=VT w x
 generalize bodyPostM Fence.wide 10 prog Tryz.f63 (Kf w x)=Q at d |-
 have m:=yb d
 clear d
 simp only[ntmps63,yA,yr,yK,Nat.reduceAdd,Nat.reduceSub,zw,zx,zG,zD,yS,yQ]
 iterate 2
  refine Aj (Aa ?_)
  go_wp2
 exact ZC m.o c.o g.o i.o _ _ _ _ _ _ _ _ _ _ _ _ _ _ _ _ _ _ _ _ _ _ _ _ _ _ _ _ _ _ _ _ _ _ _ _ _ _ _ _ _ _ _ _ _ _ _ _ _ _ _ _ _ _ _ _ _ _ _ _ _ _ _ _ _ _ _ _ _ _ _ _ _ _ _ _ _ _ _ _ _ _ _ _ _ _ _ _ _ _ _ _ _ _ _ _ _ _ _ _ _ _ _ _ _ _ _ _ _ _ _ _ _ _ _ _ _ _ _ _ _ _ _ _ _ _ _ _ _ _ _ _ _ _ _ _ _ _ _ _ _ _ _ _ _ _ _ _ _ _ _ _ _ _ _ _ _ _ _ _ _ _ _ _ _ _ _ _ _ _ _
theorem Nx{fn:Func}{t u:Tmp}{ty:TypeId}{tmps:Array Value}{P:Program}{w:World}{p:Addr}{v:Value}(h:fn.results=#[.cell t ty,.tmp u])(a:tmps.getD t undef=.pointer (some p))(b:(loadVar ty p).run P w=.ok v w):(results fn tmps).run P w=.ok (.tuple #[v,tmps.getD u undef]) w:=by
 rw[yI] at a
 simp[results,h,a,asAddr,b]
def GF(F:NP)(W:World)(b:Nat):Prop:=¬ F b/\b < W.heap.size
def H7(F:NP)(W W':World):Prop:=W.heap.size<=W'.heap.size/\∀b,b < W.heap.size->¬ F b->W'.heap[b]?=W.heap[b]?
theorem H7.refl(F:NP)(W:World):H7 F W W:=⟨yi _,λ_ _ _=>rfl⟩
theorem H7.trans{F:NP}{a b c:World}(h:H7 F a b)(k:H7 F b c):H7 F a c:=⟨yG h.1 k.1,λi hi d=>(k.2 i (yx hi h.1) d).trans (h.2 i hi d)⟩
theorem H7.below{F:NP}{W W':World}(h:Below W.heap.size W W'):H7 F W W':=⟨h.size,λb hb _=>h.block b hb⟩
theorem H7.wide{F F':NP}{W W':World}(h:H7 F W W')(c:∀b,b < W.heap.size->F b->F' b):H7 F' W W':=⟨h.1,λb hb a=>h.2 b hb (λk=>a (c b hb k))⟩
theorem GF.up{F F':NP}{W W':World}(hs:W.heap.size<=W'.heap.size)(a:∀b,F' b->F b\/W.heap.size<=b){b:Nat}(h:GF F W b):GF F' W' b:=
 ⟨λk=>(a b k).elim h.1 (λhb=>absurd h.2 (Nat.not_lt.2 hb)),yx h.2 hs⟩
theorem Bm.flux{F F':NP}{W W':World}{e:Ex}{cs:LV}(h:Bm (GF F W) W e cs)(a:H7 F W W')(c:∀b,F' b->F b\/W.heap.size<=b):Bm (GF F' W') W' e cs:=
 h.same (λ_ hb=>hb.up a.1 c) (λb hb=>a.2 b hb.2 hb.1)
structure H8 (W W':World) (b:Nat) (c:List Value) (t:TypeId):Prop where
 os:W'.os=W.os
 tape:W'.tape=W.tape
 output:W'.output=W.output
 size:W'.heap.size=W.heap.size
 row:W'.heap[b]?=some (.cells c.toArray t (0,0))
 block:∀k,k≠b->W'.heap[k]?=W.heap[k]?
theorem H8.below{W W':World}{b:Nat}{c:LV}{t:TypeId}(h:H8 W W' b c t){B:Nat}{a:World}(d:Below B a W)(hb:B<=b):Below B a W':=
 d.trans ⟨h.os,h.tape,h.output,by rw[h.size];exact yi _,λk e=>h.block k (by omega)⟩
theorem H8.flux{W W':World}{b:Nat}{c:LV}{t:TypeId}(h:H8 W W' b c t){F:NP}(a:F b):H7 F W W':=⟨by rw[h.size];exact yi _,λk _ d=>h.block k (λe=>d (e▸a))⟩
theorem Ae{W:World}{b:Nat}{c:LV}{t:TypeId}{fr:Nat × Nat}(h:W.heap[b]?=some (.cells c.toArray t fr)):W.rangeAt b 0 c:=λj v a=>by
 simp only[World.cell?,h,yy];simpa using a
theorem Ca(b:Nat)(t:TypeId):∀(vs:LV) (o:Nat) (w:World) (p m q:LV),w.heap[b]?=some (.cells (p++(m++q)).toArray t (0,0))->p.length=o->m.length=vs.length->H8 w (w.setCells b o vs) b (p++(vs++q)) t
 |[],o,w,p,m,q,h,a,hm=>by
  obtain rfl:m=[]:=zL.1 hm
  exact ⟨rfl,rfl,rfl,rfl,h,λ_ _=>rfl⟩
 |v::r,o,w,p,[],q,h,a,hm=>by simp at hm
 |v::r,o,w,p,x::m,q,h,a,hm=>by
  rw[World.setCells]
  have hw:H8 w (w.setCell ⟨b,o,none⟩ v) b ((p++[v])++(m++q)) t:=by
   refine ⟨rfl,rfl,rfl,by simp[World.setCell],?_,λk c=>qd w (aV b o) v k c⟩
   simp only[World.setCell,yH,h,xi]
   simp only[zR,zs]
   congr 1
   subst a
   simp
  have hr:=Ca b t r (o+1) (w.setCell (aV b o) v) (p++[v]) m q hw.row (by simp[a]) (by simpa using hm)
  refine ⟨hr.os.trans hw.os,hr.tape.trans hw.tape,hr.output.trans hw.output,hr.size.trans hw.size,?_,λk c=>(hr.block k c).trans (hw.block k c)⟩
  have:=hr.row
  simpa using this
theorem Ab{fn:Func}{t u:Tmp}{ty:TypeId}{R:Ending->World->Prop}{tm:Array Value}{W:World}{b:Nat}{c:LV}{d:TypeDesc}{a:TypeId}(h:fn.results=#[.cell t ty,.tmp u])(e:tm.getD t undef=.pointer (some ⟨b,0,none⟩))(hr:W.heap[b]?=some (.cells c.toArray a (0,0)))
 (g:prog.underlying ty=some d)(hd:d.isRow=true)(hi:(prog.info? ty).map (·.size)=some c.length)(f:R (.returned (.tuple #[.agg c.toArray,tm.getD u undef])) W):bodyPost prog fn R .ret {tmps:=tm,defers:=[]} W:=
 zH (Nx h e (qv _ b 0 ty c d (Ae hr) g hd hi)) rfl f
theorem Bd{fn:Func}{t:Tmp}{ty:TypeId}{R:Ending->World->Prop}{tm:Array Value}{W:World}{b:Nat}{c:LV}{d:TypeDesc}{a:TypeId}(h:fn.results=#[.cell t ty])(e:tm.getD t undef=.pointer (some ⟨b,0,none⟩))(hr:W.heap[b]?=some (.cells c.toArray a (0,0)))
 (g:prog.underlying ty=some d)(hd:d.isRow=true)(hi:(prog.info? ty).map (·.size)=some c.length)(f:R (.returned (.agg c.toArray)) W):bodyPost prog fn R .ret {tmps:=tm,defers:=[]} W:=by
 refine zH ?_ rfl f
 have h2:(loadVar ty (aV b 0)).run prog W=.ok (.agg c.toArray) W:=qv _ b 0 ty c d (Ae hr) g hd hi
 rw[yI] at e
 simp[results,h,e,asAddr,h2]
theorem F5{ty:TypeId}{w:World}{p:Addr}{v:Value}{d:TypeDesc}(a:prog.underlying ty=some d)(hd:d.isRow=false)(b:w.cell? p=some v):(loadVar ty p).run prog w=.ok v w:=by
 have c:(isAgg ty).run prog w=.ok false w:=by
  unfold isAgg
  rw[xt,xY a w]
  cases d<;>simp_all[TypeDesc.isRow]
 simp[loadVar,xt,c,b]
theorem GB{fn:Func}{t:Tmp}{ty:TypeId}{tmps:Array Value}{P:Program}{w:World}{p:Addr}{v:Value}(h:fn.results=#[.cell t ty])(a:tmps.getD t undef=.pointer (some p))(b:(loadVar ty p).run P w=.ok v w):(results fn tmps).run P w=.ok v w:=by
 rw[yI] at a
 simp[results,h,a,asAddr,b]
theorem Ai{P:Program}{x y:Code}{Q:QT}{a:Act}{w:World}(h:∀K:Act->World->Prop,Hid (∀a w,Code.wp P y Q a w->K a w)->Code.wp P x (Exit.then K Q) a w):Code.wp P (x.seq y) Q a w:=wp_seq (h _ (yb λ_ _ h=>h))
end Go.Proofs.YtbdfinegbjdblaaGreatDoor
namespace Go.Proofs.YtbdfinegbjdblaaGreatDoor
open Go.RowKit Tryz
attribute [local go_sem] Oper.semAt_some
def W8(r:Nat):Array Value:=#[.int .u64 (r:Int)]
theorem Qt{a b:Nat}(d:a≠0)(c:a % max b 1=0):EP a b=[a,b]:=by
 rw[EP,ym d]
 by_cases hb:b=0
 ·rw[dif_pos hb,hb]
 rw[dif_neg hb,yz]
 rwa [Nat.max_eq_left (by omega)] at c
theorem Oq{a b:Nat}(d:a≠0)(c:a % max b 1≠0):EP a b=a::EP b (a % max b 1)/\a % max b 1 < b:=by
 by_cases hb:b=0
 ·rw[hb] at c;simp at c;omega
 have e:max b 1=b:=Nat.max_eq_left (by omega)
 rw[e] at c |-
 refine ⟨?_,qP _ (by omega)⟩
 rw[EP,ym d,dif_neg hb,ym c]
def Nk(W:World)(B a:Nat):Prop:=W.heap[B]?=some (.cells #[.int .u64 (a:Int)] 243 (0,0))
theorem Nk.cell{W:World}{B a:Nat}(h:Nk W B a):W.cell? ⟨B,0,none⟩=some (.int .u64 (a:Int)):=by
 unfold Nk at h;simp[World.cell?,h]
theorem Nk.free{W:World}{B a:Nat}(h:Nk W B a):W.frozen? ⟨B,0,none⟩=false:=by
 unfold Nk at h;simp[World.frozen?,h]
theorem AE{W:World}{B:Nat}{u v:Value}{t:TypeId}(h:W.heap[B]?=some (.cells #[u] t (0,0))):(W.setCell ⟨B,0,none⟩ v).heap[B]?=some (.cells #[v] t (0,0)):=by
 simp[World.setCell,yH,h]
theorem Ad(W:World){B c:Nat}(v:Value)(h:c≠B):(W.setCell ⟨B,0,none⟩ v).heap[c]?=W.heap[c]?:=by
 have:¬ B=c:=λe=>h e.symm
 simp[World.setCell,yH,this]
theorem Nk.same{O:NP}{W W':World}{B a:Nat}(h:Nk W B a)(hs:B7 O W W')(hb:O B):Nk W' B a:=(hs.2 B hb).trans h
def ZD(xs:List Nat)(d e:Nat)(J:Nat->NP->World->Prop)(f:World)(k a b:Nat)(W:World):Prop:=
 xs.drop k=EP a b/\k<=xs.length/\J k (λc=>c=d\/c=e) W/\f.heap.size<=W.heap.size/\Nk W d a/\Nk W e b/\(a:Int) < 18446744073709551616/\(b:Int) < 18446744073709551616
theorem W9(n:Nat)(hn:1<=n)(f d a b:Nat)(O:f≠d)(Q:(a:Int) < 18446744073709551616)(P:(b:Int) < 18446744073709551616)(w0:World)(t:Nk w0 f a)(hb:Nk w0 d b):
  Zo Fence.wide n prog 154 #[.pointer (some ⟨f,0,none⟩),.pointer (some ⟨d,0,none⟩)] (λc=>c=f\/c=d) w0 (λ_=>True) ((EP a b).map W8) none:=by
 intro l J Jx Jp W hJ a1 _ am aj _ i X D h0
 obtain ⟨xs,F⟩:∃xs,xs=EP a b:=⟨_,rfl⟩
 have HR:=yb i
 have ai:=yb hJ
 have ao:=yb a1
 have H0:Hid (ZD xs f d J W 0 a b W):=yb ⟨by rw[F];rfl,yC _,h0,yi _,t.same D (.inl rfl),hb.same D (.inr rfl),Q,P⟩
 have HK:=yb X
 rw[<-F] at HR |-
 simp only[zh] at*
 clear i hJ a1 h0 t hb X D Q P F
 refine zi.2 ?_
 go_enter func154,ntmps154
 go_wp2
 go_loopw [] (λwr=>∃k a b:Nat,Hid (ZD xs f d J W k a b wr)) (λwr=>match wr.cell? (aV d 0) with|some v=>(intOf v).toNat|none=>0)
 case atStart=>exact ⟨0,a,b,H0⟩
 obtain ⟨k,a,b,g⟩:=hrel
 have ca:=g.o.2.2.2.2.1.cell
 have cb:=g.o.2.2.2.2.2.1.cell
 by_cases t:a=0
 ·subst t
  go_wp2
  have K:k=xs.length:=by
   have h:=g.o.1
   rw[EP,yz rfl] at h
   have:=List.drop_eq_nil_iff.1 h
   have:=g.o.2.1
   omega
  refine qE (zr rfl _ _ _) rfl (.inl ⟨⟨_,rfl⟩,.inl ⟨trivial,(λc=>c=f\/c=d),?_⟩⟩)
  have h2:=g.o.2.2.1
  rwa [K] at h2
 have ap:((a:Int) !=0)=true:=by simpa using t
 have hdr:=g.o.1
 have K:k < xs.length:=by
  have:=g.o.2.1
  have h3:xs.drop k≠ []:=by rw[hdr];exact Tq t
  have:¬ xs.length<=k:=λh=>h3 (List.drop_eq_nil_iff.2 h)
  omega
 have j:(xs.map W8)[k]'(by simpa using K)=#[.int .u64 (a:Int)]:=by
  have N:=zy K
  have e2:xs[k]=a:=by
   rw[hdr] at N
   by_cases x:a % max b 1=0
   ·rw[Qt t x] at N;exact (yT N).1.symm
   rw[(Oq t x).1] at N;exact (yT N).1.symm
  rw[xg,e2];rfl
 obtain ⟨ag,H,s,y,C,p⟩:=HR.o k K (λc=>c=f\/c=d) wr g.o.2.2.1 g.o.2.2.2.1 (λc hc=>⟨.inl hc,by have:=HK.o c hc;have:=g.o.2.2.2.1;omega⟩)
 rw[j] at C
 have a2:=yb p
 clear p j hdr
 go_upto_region 0 with fail
 refine (xV (n:=n)).1 ?_
 gi_wp2
 refine a2.o.mono ?_
 rintro e u (⟨rfl,hj,hs⟩|⟨rfl,U,hs⟩|⟨ch,rfl,hp,hs⟩)
 rotate_left
 ·have aa:=yb U
  clear U hs C
  gi_wp2
  go_wp2
  exact qE (zr rfl _ _ _) rfl (.inl ⟨⟨_,rfl⟩,.inr ⟨_,aa.o⟩⟩)
 ·exact ⟨rfl,.inr ⟨ch,rfl,_,hp⟩⟩
 clear C ca cb
 have a8:=yb hj
 have ac:=yb hs
 have HA:=yb (g.o.2.2.2.2.1.same hs (.inl rfl))
 have HB:=yb (g.o.2.2.2.2.2.1.same hs (.inr rfl))
 have ca:=HA.o.cell
 have cb:=HB.o.cell
 have fa:=HA.o.free
 have fb:=HB.o.free
 clear hj hs
 gi_wp2
 go_wp2
 have ae:(if (b:Int) < 1 then (1:Int) else b)=((max b 1:Nat):Int):=by split<;>omega
 obtain ⟨m,x⟩:∃m,m=max b 1:=⟨_,rfl⟩
 have ak:((m:Int)==0)=false:=by simp;omega
 rw[<-x] at ae
 have an:max (b:Int) 1=(m:Int):=by omega
 have q:∀(c:Nat) (o:Obj),(((u.setCell (aV f 0) (.int .u64 (b:Int))).setCell (aV d 0) (.int .u64 ((a:Int) % (m:Int)))).heap[c]?=some o->(((u.setCell (aV f 0) (.int .u64 (b:Int))).setCell (aV d 0) (.int .u64 ((a:Int) % (m:Int)))).drew).heap[c]?=some o):=λ_ _ h=>h
 have w:Hid (Nk (((u.setCell (aV f 0) (.int .u64 (b:Int))).setCell (aV d 0) (.int .u64 ((a:Int) % (m:Int)))).drew) d (a % m)):=yb (by
  have:=AE (v:=.int .u64 ((a:Int) % (m:Int))) ((Ad u (.int .u64 (b:Int)) (λe=>O e.symm)).trans HB.o)
  rw[Nk,q _ _ this];simp)
 have z:Hid (Nk (((u.setCell (aV f 0) (.int .u64 (b:Int))).setCell (aV d 0) (.int .u64 ((a:Int) % (m:Int)))).drew) f b):=yb (q _ _ ((Ad _ _ O).trans (AE HA.o)))
 have E:(((u.setCell (aV f 0) (.int .u64 (b:Int))).setCell (aV d 0) (.int .u64 ((a:Int) % (m:Int)))).drew).heap.size=u.heap.size:=by simp
 have G:Hid (J (k+1) (λc=>c=f\/c=d) (((u.setCell (aV f 0) (.int .u64 (b:Int))).setCell (aV d 0) (.int .u64 ((a:Int) % (m:Int)))).drew)):=yb (ai.o _ _ _ _ _ a8.o (Nat.le_of_eq E.symm) rfl rfl rfl (λc hc _=>by
  have h1:c≠f:=λe=>hc (.inl e)
  have h2:c≠d:=λe=>hc (.inr e)
  exact (Ad _ _ h2).trans (Ad _ _ h1)) (λc hc=>.inl hc))
 have Y:W.heap.size<=u.heap.size:=yG g.o.2.2.2.1 ac.o.1
 generalize M:(((u.setCell (aV f 0) (.int .u64 (b:Int))).setCell (aV d 0) (.int .u64 ((a:Int) % (m:Int)))).drew)=W4 at z w G E
 have A:Hid (W.heap.size<=W4.heap.size):=yb (by omega)
 have a6:Hid (∀c,(c=f\/c=d)->((c=f\/c=d)\/W.heap.size<=c)/\c < W4.heap.size):=yb (λc hc=>⟨.inl hc,by have:=HK.o c hc;have:=A.o;omega⟩)
 clear E Y q
 have HM:=yb x
 have T:((a:Int) % (m:Int))=((a % m:Nat):Int):=by simp
 have L:=yb T
 clear T
 by_cases I:a % m=0
 ·have ab:((a:Int) % (m:Int)==0)=true:=by
   rw[L.o,I];rfl
  rw[x] at I
  have hdr:=g.o.1
  rw[Qt t I] at hdr
  have Z:xs.length=k+2:=by
   have:=yN List.length hdr
   simp at this;omega
  have j:(xs.map W8)[k+1]'(by simp;omega)=#[.int .u64 (b:Int)]:=by
   have e2:xs[k+1]'(by omega)=b:=by
    have:=yN (λl=>l[1]?) hdr
    simp[List.getElem?_drop] at this
    rw[yk (by omega)] at this
    exact yf this
   rw[xg,e2];rfl
  obtain ⟨ag,H,s,y,C,p⟩:=HR.o (k+1) (by omega) (λc=>c=f\/c=d) W4 G.o A.o a6.o
  rw[j] at C
  have V:=yb p
  have a7:=yb Z
  have R:=w.o.cell
  have al:=z.o.cell
  clear p j hdr Z I x
  go_region
  clear M
  go_upto_region 3 with fail
  refine (xV (n:=n)).1 ?_
  gi_wp2
  refine V.o.mono ?_
  rintro e W5 (⟨rfl,hj,hs⟩|⟨rfl,U,hs⟩|⟨ch,rfl,hp,hs⟩)
  ·have af:=yb hj
   clear hj hs C
   gi_wp2
   go_wp2
   refine zH (zr rfl _ _ _) rfl (.inl ⟨⟨_,rfl⟩,.inl ⟨trivial,(λc=>c=f\/c=d),?_⟩⟩)
   have:=af.o
   rwa [show k+1+1=xs.length by have:=a7.o;omega] at this
  ·have ad:=yb U
   clear U hs C
   gi_wp2
   go_wp2
   exact zH (zr rfl _ _ _) rfl (.inl ⟨⟨_,rfl⟩,.inr ⟨_,ad.o⟩⟩)
  exact ⟨rfl,.inr ⟨ch,rfl,_,hp⟩⟩
 have ab:((a:Int) % (m:Int)==0)=false:=by
  rw[L.o];simp;omega
 have HZ:Hid (¬ a % max b 1=0):=yb (by rw[<-x];exact I)
 have R:=w.o.cell
 clear I x
 go_region
 clear M
 go_wp2
 have B:=Oq t HZ.o
 have S:W4.cell? (aV d 0)=some (.int .u64 ((a % max b 1:Nat):Int)):=by rw[<-HM.o];exact R
 have ah:=g.o.2.2.2.2.2.1.cell
 refine ⟨⟨k+1,b,a % max b 1,yb ⟨?_,by have:=g.o.2.1;omega,G.o,A.o,z.o,by rw[<-HM.o];exact w.o,g.o.2.2.2.2.2.2.2,?_⟩⟩,?_⟩
 ·have h1:=g.o.1
  rw[B.1,zy K] at h1
  exact (yT h1).2
 ·have:=g.o.2.2.2.2.2.2.2
  have:=B.2
  omega
 rw[S,ah]
 have:=B.2
 generalize a % max b 1=r at this |-
 show (r:Int).toNat < (b:Int).toNat
 omega
end Go.Proofs.YtbdfinegbjdblaaGreatDoor
namespace Go.Proofs.YtbdfinegbjdblaaGreatDoor
open Go.RowKit Tryz
attribute [local go_sem] Oper.semAt_some
theorem My(a b:Int)(w:World):Calls prog 147 #[.int .u64 a,.int .u64 b] w λe w'=>e=.returned (.func (.func 154) #[] #[.pointer (some ⟨w.heap.size,0,none⟩),.pointer (some ⟨w.heap.size+1,0,none⟩)])/\w'=(w.alloc (.cells #[.int .u64 a] 243)).alloc (.cells #[.int .u64 b] 243):=by
 have c:∀(fn:Fn) (first cap:Array Value) (w:World),(Instr.makeFunc fn first cap).run prog w=.ok (.func fn first cap) w:=λ_ _ _ _=>rfl
 go_enter func147,ntmps147
 go_wp2
 go_ret
 exact ⟨rfl,rfl⟩
theorem Mz(d:Nat):∀(l:List Nat) (k:Nat) (h:k < l.length),JA d (l.take (k+1))=l[k]
 |[],k,h=>absurd h (by simp)
 |x::r,0,_=>rfl
 |x::r,k+1,h=>by
  have a:k < r.length:=by simpa using h
  show JA x (r.take (k+1))=r[k]
  rw[Qs (by cases r with|nil=>simp at a|cons y s=>simp) x d]
  exact Mz d r k a
def DJ(g:Nat)(w:World)(d:Nat)(xs:List Nat)(k:Nat)(O:NP)(W:World):Prop:=(∀b,O b->g < b)/\Below g w W/\g < W.heap.size/\Nk W g (JA d (xs.take k))
theorem DJ.stays{g:Nat}{w:World}{d:Nat}{xs:List Nat}:Cv (DJ g w d xs):=by
 intro k O W o W' c i j f e a l
 have hg:=c.2.2.1
 have m:∀b,b<=g->¬ O b:=λb hb n=>by have:=c.1 b n;omega
 refine ⟨λb hb=>(l b hb).elim (c.1 b) (λh=>by omega),c.2.1.trans ⟨j,f,e,i,λb hb=>a b (m b (by omega)) (by omega)⟩,by omega,(a g (m g (yi _)) hg).trans c.2.2.2⟩
theorem Lg(a b:Nat)(y:(a:Int) < 18446744073709551616)(u:(b:Int) < 18446744073709551616)(w:World):
  Calls prog 139 #[.int .u64 a,.int .u64 b] w λe w'=>e=.returned (.int .u64 (Nat.gcd a b:Int))/\Below w.heap.size w w':=by
 by_cases hb:b=0
 ·subst hb
  go_enter func139,ntmps139
  go_wp2
  refine zH (GB rfl rfl (F5 j7 rfl ?_)) rfl ⟨rfl,?_⟩
  ·rw[Nat.gcd_zero_right]
   simp only[World.cell?,World.alloc_heap_new]
   simp
  exact (yg _ _).alloc (yi _) _
 have Y:((b:Int)==0)=false:=by simpa using hb
 have H:=yb y
 have J:=yb u
 have U:=yb hb
 clear y u hb
 refine Bt (n:=10) func139 rfl ?_
 simp only[ntmps139,yA,yr,yK,Nat.reduceAdd,Nat.reduceSub,zw,zx,zG,zD,yS,yQ]
 iterate 3
  refine Aj (Aa ?_)
  go_wp2
 refine Aj ?_
 refine Aj (Aa ?_)
 go_wp2_with (first|(go_at_call 147;refine (My _ _ _).mono ?_;rintro e w2 ⟨rfl,rfl⟩))
 refine Dp ?_
 have M:Hid (∀W,W=((w.alloc (.cells #[.int .u64 (b:Int)] 243)).alloc (.cells #[.int .u64 (a:Int)] 243)).alloc (.cells #[.int .u64 (b:Int)] 243)->Nk W w.heap.size b/\Nk W (w.heap.size+1) a/\Nk W (w.heap.size+1+1) b/\Below w.heap.size w W/\W.heap.size=w.heap.size+3):=yb (by
  rintro W rfl
  refine ⟨?_,?_,?_,(((yg _ _).alloc (yi _) _).alloc (by simp) _).alloc (by simp;omega) _,by simp⟩
  ·exact (yp _ _ _ (by simp;omega)).trans ((yp _ _ _ (by simp)).trans (World.alloc_heap_new w _))
  ·have:=World.alloc_heap_new (w.alloc (.cells #[.int .u64 (b:Int)] 243)) (.cells #[.int .u64 (a:Int)] 243)
   rw[ze] at this
   exact (yp _ _ _ (by simp)).trans this
  have:=World.alloc_heap_new ((w.alloc (.cells #[.int .u64 (b:Int)] 243)).alloc (.cells #[.int .u64 (a:Int)] 243)) (.cells #[.int .u64 (b:Int)] 243)
  rw[ze,ze] at this
  exact this)
 generalize j:((w.alloc (.cells #[.int .u64 (b:Int)] 243)).alloc (.cells #[.int .u64 (a:Int)] 243)).alloc (.cells #[.int .u64 (b:Int)] 243)=L
 obtain ⟨n0,n1,n2,s,P⟩:=M.o L j.symm
 clear j M
 generalize hg:w.heap.size=g at*
 have C:=yb s
 have z:=yb P
 clear s P
 refine PK (n:=10) (K:=λc=>c=g+1\/c=g+1+1) func139 rfl (λ_ _=>rfl) (λc hc=>by have:=z.o;omega) (W9 9 (by omega) (g+1) (g+1+1) a b (by omega) H.o J.o L n1 n2) (λx hx=>by
   obtain ⟨r, -,rfl⟩:=xS.1 hx;rfl)
  (DJ g w b (EP a b)) (λ_ _ _=>False) (λ_ _ _=>False)
  (λk N O W=>DJ g w b (EP a b) k O W/\∃q,N={tmps:=#[.int .u64 a,.int .u64 b,undef,undef,pV g 0,.int .u64 (((EP a b).getD k 0:Nat):Int),.int .u64 b,.bool false,undef,.int .u64 b,.int .u64 a,.int .u64 b,.func (.func 154) #[] #[pV (g+1) 0,pV (g+1+1) 0],q,undef,undef],defers:=[]})
  DJ.stays (λ_ _ _ _ _ _ h=>h.elim) (λ_ _ _ _ _ _ h=>h.elim) (λN k O W V W' h h1 h2 h3 Z X h6=>⟨DJ.stays k O W V W' h.1 h1 h2 h3 Z X h6,h.2⟩) (λ_ _ _ _=>trivial) (λ_ _ _ h=>h.elim) (λ_ h=>by cases h) ?_ ?_ ?_ ?_ (λ_ _ _ _ _ _ h=>h.elim) (λ_ _ _ _ _ _ h=>h.elim)
 ·refine ⟨λc hc=>by rcases hc with rfl|rfl<;>omega,C.o,by have:=z.o;omega,?_⟩
  exact n0
 ·intro k A O W l f T F _
  have i:k < (EP a b).length:=by simpa using A
  obtain ⟨r,h1,h2⟩:∃r:Nat,((EP a b).map W8)[k]=#[.int .u64 (r:Int)]/\(EP a b).getD k 0=r:=⟨(EP a b)[k],by rw[xg];rfl,by simp[List.getD,i]⟩
  rw[h1,h2]
  have d:=yb f
  clear f T F h1 h2 A i
  gi_wp2
  first
  |exact ⟨B7.refl _ _,d.o,_,rfl⟩
  |(rename_i B;exact B _ _ ⟨B7.refl _ _,d.o,_,rfl⟩)
  |(rename_i B _;exact B _ _ ⟨B7.refl _ _,d.o,_,rfl⟩)
 ·rintro k A O W l a1 F p S ⟨f,q,rfl⟩
  have i:k < (EP a b).length:=by simpa using A
  have hr:JA b ((EP a b).take (k+1))=(EP a b).getD k 0:=by
   rw[Mz _ _ _ i];simp[List.getD,i]
  have Q:=yb hr
  generalize (EP a b).getD k 0=r at*
  have d:=yb f
  have hc:=f.2.2.2.cell
  have hf:=f.2.2.2.free
  clear f F p hr
  gi_wp2
  refine ⟨⟨by simp,λc hc=>Ad _ _ (by have:=d.o.1 c hc;omega)⟩,d.o.1,d.o.2.1.trans ⟨rfl,rfl,rfl,by simp,λc hc=>Ad _ _ (by omega)⟩,by have:=d.o.2.2.1;simpa using this,?_⟩
  rw[Q.o]
  exact AE d.o.2.2.2
 rintro - D O W hD - f m
 have hr:JA b ((EP a b).take ((EP a b).map W8).length)=Nat.gcd a b:=by
  rw[zh,zA];exact W7 b a U.o
 have d:=yb f
 have v:=f.2.2.2
 rw[hr] at v
 have hc:=v.cell
 have hf:=v.free
 have HN:=yb v
 have R:=yb m
 clear f hr v m
 refine Aa ?_
 go_wp2
 have t:D≠g:=by have:=z.o;omega
 have I:(W.setCell (aV g 0) (.int .u64 ((Nat.gcd a b:Nat):Int))).heap[D]?=some (.deferred (some [])):=(Ad _ _ t).trans R.o
 have E:Nk (W.setCell (aV g 0) (.int .u64 ((Nat.gcd a b:Nat):Int))) g (Nat.gcd a b):=AE HN.o
 have G:Below g w (W.setCell (aV g 0) (.int .u64 ((Nat.gcd a b:Nat):Int))):=d.o.2.1.trans ⟨rfl,rfl,rfl,by simp,λc hc=>Ad _ _ (by omega)⟩
 refine ⟨by simp,.inl ⟨_,_,rfl,run_takeDeferred I,⟨_,GB rfl rfl (F5 j7 rfl ((Nk.cell (a:=Nat.gcd a b) (World.putObj_heap_other (xC t) |>.trans E)))),rfl,KE G (by have:=z.o;omega) _⟩⟩⟩
end Go.Proofs.YtbdfinegbjdblaaGreatDoor
namespace Go.Proofs.YtbdfinegbjdblaaGreatDoor
open Go.RowKit Tryz
def Rt.v(r:Rt):Value:=.agg #[.int .i64 r.n,.int .i64 r.d]
def Nz(b:Bool):Int:=if b=true then 0 else 120
theorem Hw(r:Rt)(w:World):Calls prog 132 #[r.v] w λe w'=>e=.returned (.int .i64 (Nz (AJ r)))/\Below w.heap.size w w':=by
 obtain ⟨n,d⟩:=r
 unfold Rt.v
 dsimp only
 by_cases h1:1<=d
 rotate_left
 ·have e1:decide (d < 1)=true:=by simp[Dv] at h1 |-;omega
  have hf:Hid (AJ ⟨n,d⟩=false):=yb (by unfold AJ;simp[*])
  clear h1
  go_enter func132,ntmps132
  go_wp2
  go_region
  go_wp2
  go_ret
  exact ⟨by rw[hf.o];rfl,((yg _ _).alloc (yi _) _).drew⟩
 have e1:decide (d < 1)=false:=by simp[Dv] at h1 |-;omega
 by_cases h2:d<=Dv
 rotate_left
 ·have e2:decide (1073741824 < d)=true:=by simp[Dv] at h2 |-;omega
  have hf:Hid (AJ ⟨n,d⟩=false):=yb (by unfold AJ;simp[*])
  clear h1 h2
  go_enter func132,ntmps132
  go_wp2
  go_region
  go_wp2
  go_ret
  exact ⟨by rw[hf.o];rfl,((yg _ _).alloc (yi _) _).drew⟩
 have e2:decide (1073741824 < d)=false:=by simp[Dv] at h2 |-;omega
 by_cases h3: -Dv<=n
 rotate_left
 ·have e3:decide (n < -1073741824)=true:=by simp[Dv] at h3 |-;omega
  have hf:Hid (AJ ⟨n,d⟩=false):=yb (by unfold AJ;simp[*])
  clear h1 h2 h3
  go_enter func132,ntmps132
  go_wp2
  go_region
  go_wp2
  go_ret
  exact ⟨by rw[hf.o];rfl,((yg _ _).alloc (yi _) _).drew⟩
 have e3:decide (n < -1073741824)=false:=by simp[Dv] at h3 |-;omega
 by_cases h4:n<=Dv
 rotate_left
 ·have e4:decide (1073741824 < n)=true:=by simp[Dv] at h4 |-;omega
  have hf:Hid (AJ ⟨n,d⟩=false):=yb (by unfold AJ;simp[*])
  clear h1 h2 h3 h4
  go_enter func132,ntmps132
  go_wp2
  go_region
  go_wp2
  go_ret
  exact ⟨by rw[hf.o];rfl,((yg _ _).alloc (yi _) _).drew⟩
 have e4:decide (1073741824 < n)=false:=by simp[Dv] at h4 |-;omega
 have HC:Hid (AJ ⟨n,d⟩=decide (Int.gcd n d=1)):=yb (by unfold AJ;simp[h1,h2,h3,h4])
 have HM:Hid (∀W,Calls prog 140 #[.int .i64 n] W λe w'=>e=.returned (.int .u64 (n.natAbs:Int))/\w'=W):=yb (λW=>Gs n (by unfold Dv at h3;omega) (by unfold Dv at h4;omega) W)
 obtain ⟨k,hk⟩:∃k:Nat,k=d.toNat:=⟨_,rfl⟩
 have hk1:(k:Int)=d:=by omega
 have hw:IntKind.u64.wrap d=(k:Int):=by rw[Iy,hk1];unfold Dv at h2;omega
 have HG:Hid (Int.gcd n d=Nat.gcd n.natAbs k):=yb (by unfold Int.gcd;congr 1;omega)
 have HD:Hid (∀W,Calls prog 139 #[.int .u64 (n.natAbs:Int),.int .u64 (k:Int)] W λe w'=>e=.returned (.int .u64 ((Nat.gcd n.natAbs k:Nat):Int))/\Below W.heap.size W w'):=yb (λW=>Lg n.natAbs k (by unfold Dv at h3 h4;omega) (by unfold Dv at h2;omega) W)
 clear h1 h2 h3 h4 hk hk1
 generalize n.natAbs=m at*
 generalize Nat.gcd m k=g at*
 rw[HC.o,HG.o]
 clear HC HG
 have HS1:Hid ((w.alloc (.cells #[.int .i64 n,.int .i64 d] 58)).drew.cell? ⟨w.heap.size,0,none⟩=some (.int .i64 n)/\(w.alloc (.cells #[.int .i64 n,.int .i64 d] 58)).drew.cell? ⟨w.heap.size,1,none⟩=some (.int .i64 d)):=yb (by
  have h:=World.alloc_heap_new w (.cells #[.int .i64 n,.int .i64 d] 58)
  simp only[World.cell?,World.drew,h];simp)
 have HB1:Hid (Below w.heap.size w (w.alloc (.cells #[.int .i64 n,.int .i64 d] 58)).drew):=yb (((yg _ _).alloc (yi _) _).drew)
 go_enter func132,ntmps132
 go_wp2
 go_region_held3 (λw'=>w'.cell? ⟨w.heap.size,0,none⟩=some (.int .i64 n)/\w'.cell? ⟨w.heap.size,1,none⟩=some (.int .i64 d)) (first|exact HS1.o|exact HS2.o) (first|(go_at_call 140;refine (HM.o _).mono ?_;rintro e w2 ⟨rfl,rfl⟩)|(go_at_call 139;refine (HD.o _).mono ?_;rintro e w2 ⟨rfl,hw2⟩;have HS2:=yb (And.intro ((hw2.cell (p:=⟨w.heap.size,0,none⟩) (yU _ _ HS1.o.1)).trans HS1.o.1) ((hw2.cell (p:=⟨w.heap.size,1,none⟩) (yU _ _ HS1.o.2)).trans HS1.o.2));have HB2:=yb (HB1.o.trans (hw2.mono HB1.o.size));clear hw2))
 by_cases hg:g=1
 ·have hgi:((g:Int) !=1)=false:=by simp[hg]
  have hgo:Hid (Nz (decide (g=1))=0):=yb (by simp[hg,Nz])
  clear hg
  go_wp2
  go_ret
  exact ⟨by rw[hgo.o];rfl,HB2.o⟩
 have hgi:((g:Int) !=1)=true:=by simp;omega
 have hgo:Hid (Nz (decide (g=1))=120):=yb (by simp[hg,Nz])
 clear hg
 go_wp2
 go_ret
 exact ⟨by rw[hgo.o];rfl,HB2.o⟩
theorem FB{W:World}{b:Nat}{x y:Value}{t:TypeId}(h:W.heap[b]?=some (.cells #[x,y] t (0,0))):W.cell? ⟨b,0,none⟩=some x/\W.cell? ⟨b,1,none⟩=some y/\W.frozen? ⟨b,0,none⟩=false/\W.frozen? ⟨b,1,none⟩=false:=by
 refine ⟨?_,?_,?_,?_⟩
 ·simp only[World.cell?,h];simp
 ·simp only[World.cell?,h];simp
 ·simp[World.frozen?,h]
 simp[World.frozen?,h]
theorem MA(x:Int)(h1: -9223372036854775808<=x)(h2:x < 9223372036854775808):IntKind.i64.wrap x=x:=by
 rw[zF];omega
theorem DS{W:World}{b:Nat}{x y v:Value}{t:TypeId}(h:W.heap[b]?=some (.cells #[x,y] t (0,0))):(W.setCell ⟨b,0,none⟩ v).heap[b]?=some (.cells #[v,y] t (0,0)):=by
 simp[World.setCell,yH,h]
theorem E9{W:World}{b:Nat}{x y v:Value}{t:TypeId}(h:W.heap[b]?=some (.cells #[x,y] t (0,0))):(W.setCell ⟨b,1,none⟩ v).heap[b]?=some (.cells #[x,v] t (0,0)):=by
 simp[World.setCell,yH,h]
theorem Ah{B:Nat}{a W:World}(h:Below B a W){b o:Nat}(hb:B<=b)(v:Value):Below B a (W.setCell ⟨b,o,none⟩ v):=
 h.trans ⟨rfl,rfl,rfl,by simp,λk hk=>qd W ⟨b,o,none⟩ v k (by show k≠b;omega)⟩
theorem Uk(n d:Int)(h1: -4611686018427387904<=n)(h2:n<=4611686018427387904)(h3: -4611686018427387904<=d)(h4:d<=4611686018427387904)(w:World):Calls prog 138 #[.int .i64 n,.int .i64 d] w λe w'=>e=.returned (.tuple #[(Gm n d).1.v,.int .i64 (Gm n d).2])/\Below w.heap.size w w':=by
 by_cases hd:d=0
 ·have hm:Hid (Gm n d=(Ja,120)):=yb (by unfold Gm;rw[yz hd])
  have hdi:(d==0)=true:=by simpa using hd
  rw[hm.o]
  clear hd hm
  go_enter func138,ntmps138
  go_wp2
  exact Ab rfl rfl (World.alloc_heap_new _ _) ju rfl (by kernel_rfl) ⟨rfl,(yg _ _).alloc (yi _) _⟩
 have HM:Hid (∀W,Calls prog 140 #[.int .i64 n] W λe w'=>e=.returned (.int .u64 (n.natAbs:Int))/\w'=W):=yb (λW=>Gs n h1 h2 W)
 have HM2:Hid (∀W,Calls prog 140 #[.int .i64 d] W λe w'=>e=.returned (.int .u64 (d.natAbs:Int))/\w'=W):=yb (λW=>Gs d h3 h4 W)
 have HD:Hid (∀W,Calls prog 139 #[.int .u64 (n.natAbs:Int),.int .u64 (d.natAbs:Int)] W λe w'=>e=.returned (.int .u64 ((Int.gcd n d:Nat):Int))/\Below W.heap.size W w'):=yb (λW=>Lg n.natAbs d.natAbs (by omega) (by omega) W)
 have hdi:(d==0)=false:=by simpa using hd
 have hgp:0 < Int.gcd n d:=Int.gcd_pos_of_ne_zero_right n hd
 have hg0:((Int.gcd n d:Int)==0)=false:=by simp;intro _;exact hd
 obtain ⟨x,hx⟩:∃x:Nat,x=n.natAbs / Int.gcd n d:=⟨_,rfl⟩
 obtain ⟨y,hy⟩:∃y:Nat,y=d.natAbs / Int.gcd n d:=⟨_,rfl⟩
 have hxi:((n.natAbs:Nat):Int) / ((Int.gcd n d:Nat):Int)=(x:Int):=by rw[hx];simp
 have hyi:((d.natAbs:Nat):Int) / ((Int.gcd n d:Nat):Int)=(y:Int):=by rw[hy];simp
 have hxt:((n.natAbs:Nat):Int).tdiv ((Int.gcd n d:Nat):Int)=(x:Int):=by rw[hx];rfl
 have hyt:((d.natAbs:Nat):Int).tdiv ((Int.gcd n d:Nat):Int)=(y:Int):=by rw[hy];rfl
 have hxw:IntKind.u64.wrap (x:Int)=(x:Int):=by
  have:x<=n.natAbs:=by rw[hx];exact Nat.div_le_self _ _
  rw[Iy];omega
 have hyw:IntKind.u64.wrap (y:Int)=(y:Int):=by
  have:y<=d.natAbs:=by rw[hy];exact Nat.div_le_self _ _
  rw[Iy];omega
 have HMk:Hid (Gm n d=if Dv < max (x:Int) (y:Int) then (Ja,2) else (⟨if (decide (n < 0) !=decide (d < 0))=true then -(x:Int) else x,y⟩,0)):=yb (by unfold Gm;rw[ym hd,hx,hy])
 clear h1 h2 h3 h4 hd hgp hx hy
 generalize n.natAbs=m at*
 generalize d.natAbs=k at*
 generalize Int.gcd n d=g at*
 have hgn:¬ ((g:Int)=0):=by simpa using hg0
 have hgm:¬ (g=0):=by omega
 obtain ⟨z,hz⟩:∃z:Int,z=max (x:Int) (y:Int):=⟨_,rfl⟩
 have hzi:(if (x:Int) < (y:Int) then (y:Int) else (x:Int))=z:=by split<;>omega
 have hzj:max (x:Int) (y:Int)=z:=hz.symm
 have HZ:=yb hz
 clear hz
 by_cases hbig:Dv < z
 ·have hdz:decide (1073741824 < z)=true:=by simpa[Dv] using hbig
  have hm:Hid (Gm n d=(Ja,2)):=yb (by rw[HMk.o,yz (by rw[<-HZ.o];exact hbig)])
  rw[hm.o]
  clear hbig HMk hm
  go_enter func138,ntmps138
  go_wp2_with (first|(go_at_call 140;with_reducible refine (HM.o _).mono ?_;rintro e w2 ⟨rfl,rfl⟩)|(go_at_call 140;with_reducible refine (HM2.o _).mono ?_;rintro e w2 ⟨rfl,rfl⟩)|(go_at_call 139;refine (HD.o _).mono ?_;rintro e w2 ⟨rfl,hw2⟩;have hr:w2.heap[w.heap.size]?=some (.cells #[.int .i64 0,.int .i64 0] 58 (0,0)):=(hw2.block _ (by simp)).trans (World.alloc_heap_new _ _);have HR:=yb hr;obtain ⟨c0,c1,f0,f1⟩:=FB hr;have HB2:=yb (((yg _ w).alloc (yi _) (.cells #[.int .i64 0,.int .i64 0] 58)).trans (hw2.mono (by simp)));clear hw2 hr))
  go_region
  go_wp2
  exact Ab rfl rfl (E9 (DS HR.o)) ju rfl (by kernel_rfl) ⟨rfl,(Ah (Ah HB2.o (yi _) _) (yi _) _).drew⟩
 have hdz:decide (1073741824 < z)=false:=by simpa[Dv] using hbig
 have hm:Hid (Gm n d=(⟨if (decide (n < 0) !=decide (d < 0))=true then -(x:Int) else x,y⟩,0)):=yb (by rw[HMk.o,ym (by rw[<-HZ.o];exact hbig)])
 have hxs:IntKind.i64.wrap (x:Int)=(x:Int):=by have:=HZ.o;unfold Dv at hbig;exact MA _ (by omega) (by omega)
 have hys:IntKind.i64.wrap (y:Int)=(y:Int):=by have:=HZ.o;unfold Dv at hbig;exact MA _ (by omega) (by omega)
 have hxn:IntKind.i64.wrap (-(x:Int))= -(x:Int):=by have:=HZ.o;unfold Dv at hbig;exact MA _ (by omega) (by omega)
 rw[hm.o]
 clear hbig HMk hm
 have HNe:Hid (∀c d:Bool,(!c==d)=(c !=d)):=yb (by decide)
 cases hne:(decide (n < 0) !=decide (d < 0)) with
 |true=>
  have hnf:=(HNe.o (decide (n < 0)) (decide (d < 0))).trans hne
  go_enter func138,ntmps138
  go_wp2_with (first|(go_at_call 140;with_reducible refine (HM.o _).mono ?_;rintro e w2 ⟨rfl,rfl⟩)|(go_at_call 140;with_reducible refine (HM2.o _).mono ?_;rintro e w2 ⟨rfl,rfl⟩)|(go_at_call 139;refine (HD.o _).mono ?_;rintro e w2 ⟨rfl,hw2⟩;have hr:w2.heap[w.heap.size]?=some (.cells #[.int .i64 0,.int .i64 0] 58 (0,0)):=(hw2.block _ (by simp)).trans (World.alloc_heap_new _ _);have HR:=yb hr;obtain ⟨c0,c1,f0,f1⟩:=FB hr;have HB2:=yb (((yg _ w).alloc (yi _) (.cells #[.int .i64 0,.int .i64 0] 58)).trans (hw2.mono (by simp)));clear hw2 hr))
  go_region
  go_wp2
  exact Ab rfl rfl (E9 (DS (DS (E9 (DS HR.o))))) ju rfl (by kernel_rfl) ⟨rfl,(Ah (Ah (Ah (Ah (Ah HB2.o (yi _) _) (yi _) _) (yi _) _) (yi _) _) (yi _) _).drew⟩
 |false=>
  have hnf:=(HNe.o (decide (n < 0)) (decide (d < 0))).trans hne
  go_enter func138,ntmps138
  go_wp2_with (first|(go_at_call 140;with_reducible refine (HM.o _).mono ?_;rintro e w2 ⟨rfl,rfl⟩)|(go_at_call 140;with_reducible refine (HM2.o _).mono ?_;rintro e w2 ⟨rfl,rfl⟩)|(go_at_call 139;refine (HD.o _).mono ?_;rintro e w2 ⟨rfl,hw2⟩;have hr:w2.heap[w.heap.size]?=some (.cells #[.int .i64 0,.int .i64 0] 58 (0,0)):=(hw2.block _ (by simp)).trans (World.alloc_heap_new _ _);have HR:=yb hr;obtain ⟨c0,c1,f0,f1⟩:=FB hr;have HB2:=yb (((yg _ w).alloc (yi _) (.cells #[.int .i64 0,.int .i64 0] 58)).trans (hw2.mono (by simp)));clear hw2 hr))
  go_region
  go_wp2
  exact Ab rfl rfl (E9 (DS (E9 (DS HR.o)))) ju rfl (by kernel_rfl) ⟨rfl,(Ah (Ah (Ah (Ah HB2.o (yi _) _) (yi _) _) (yi _) _) (yi _) _).drew⟩
theorem XG{a:Rt}(h:AJ a=true):(a.n.natAbs<=1073741824/\a.d.natAbs<=1073741824):=by
 unfold AJ at h
 simp only[yw,yM] at h
 unfold Dv at h
 omega
theorem NA{x y:Int}(b:x.natAbs<=1073741824)(a:y.natAbs<=1073741824):(x*y).natAbs<=1152921504606846976:=by
 rw[Int.natAbs_mul]
 exact qD b a
theorem Ay{x:Int}(h:x.natAbs<=4611686018427387904):wrap64 x=x:=by unfold wrap64;omega
def Ul(op:Int)(a b:Rt)(w:World)(e:Ending)(w':World):Prop:=e=.returned (.tuple #[.int .i64 (FK op a b).1,.int .i64 (FK op a b).2])/\Below w.heap.size w w'
theorem LR(a b:Rt)(h:AJ a=true)(hb:AJ b=true)(w:World):
  Calls prog 126 #[a.v,b.v] w (Ul 3 a b w)/\Calls prog 128 #[a.v,b.v] w (Ul 4 a b w)/\Calls prog 130 #[a.v,b.v] w (Ul 5 a b w)/\Calls prog 131 #[a.v,b.v] w (Ul 6 a b w):=by
 have h1:=XG h
 have h2:=XG hb
 obtain ⟨n,d⟩:=a
 obtain ⟨m,k⟩:=b
 unfold Rt.v
 dsimp only at h1 h2 |-
 have l:=NA h1.1 h2.2
 have s:=NA h2.1 h1.2
 have o:=NA h1.2 h2.2
 have p:=NA h1.1 h2.1
 have j:=NA h1.2 h2.1
 have q1:=Ay (x:=n*k) (by omega)
 have q2:=Ay (x:=m*d) (by omega)
 have g:=Ay (x:=d*k) (by omega)
 have i:=Ay (x:=n*m) (by omega)
 have t:=Ay (x:=d*m) (by omega)
 have q:=Ay (x:=n*k+m*d) (by omega)
 have r:=Ay (x:=n*k - m*d) (by omega)
 clear h1 h2 l s o p j h hb
 have f:FK 3 ⟨n,d⟩ ⟨m,k⟩=(n*k+m*d,d*k):=by simp[FK]
 have e:FK 4 ⟨n,d⟩ ⟨m,k⟩=(n*k - m*d,d*k):=by simp[FK]
 have r5:FK 5 ⟨n,d⟩ ⟨m,k⟩=(n*m,d*k):=by simp[FK]
 have c:FK 6 ⟨n,d⟩ ⟨m,k⟩=(n*k,d*m):=by simp[FK]
 refine ⟨?_,?_,?_,?_⟩
 ·clear e r5 c;go_enter func126,ntmps126
  go_wp2
  go_region
  go_wp2
  refine zH (qF rfl _ _ _) rfl ⟨?_,(((yg _ _).alloc (yi _) _).alloc (by simp) _).drew⟩
  rw[f]
  show Ending.returned (.tuple #[iV (wrap64 (n*k+m*d)),iV (wrap64 (d*k))])=_
  rw[q,g]
 ·clear f r5 c;go_enter func128,ntmps128
  go_wp2
  go_region
  go_wp2
  refine zH (qF rfl _ _ _) rfl ⟨?_,(((yg _ _).alloc (yi _) _).alloc (by simp) _).drew⟩
  rw[e]
  show Ending.returned (.tuple #[iV (wrap64 (n*k - m*d)),iV (wrap64 (d*k))])=_
  rw[r,g]
 ·clear f e c;go_enter func130,ntmps130
  go_wp2
  go_region
  go_wp2
  refine zH (qF rfl _ _ _) rfl ⟨?_,(((yg _ _).alloc (yi _) _).alloc (by simp) _).drew⟩
  rw[r5]
  show Ending.returned (.tuple #[iV (wrap64 (n*m)),iV (wrap64 (d*k))])=_
  rw[i,g]
 clear f e r5;go_enter func131,ntmps131
 go_wp2
 go_region
 go_wp2
 refine zH (qF rfl _ _ _) rfl ⟨?_,(((yg _ _).alloc (yi _) _).alloc (by simp) _).drew⟩
 rw[c]
 show Ending.returned (.tuple #[iV (wrap64 (n*k)),iV (wrap64 (d*m))])=_
 rw[q1,t]
structure Zk (w:World) (f:Value) (a b:Rt) (W:World):Prop where
 below:Below w.heap.size w W
 fn:W.heap[w.heap.size]?=some (.cells #[f] 236 (0,0))
 a:W.heap[w.heap.size+1]?=some (.cells #[.int .i64 a.n,.int .i64 a.d] 58 (0,0))
 b:W.heap[w.heap.size+1+1]?=some (.cells #[.int .i64 b.n,.int .i64 b.d] 58 (0,0))
 r:W.heap[w.heap.size+1+1+1]?=some (.cells #[.int .i64 0,.int .i64 0] 58 (0,0))
theorem Zk.lt{w:World}{f:Value}{a b:Rt}{W:World}(h:Zk w f a b W):w.heap.size+3 < W.heap.size:=(yd.1 h.r).1
theorem Zk.up{w:World}{f:Value}{a b:Rt}{W W':World}(h:Zk w f a b W)(hw:Below W.heap.size W W'):Zk w f a b W':=by
 have c:=h.lt
 exact ⟨h.below.trans (hw.mono (by omega)),(hw.block _ (by omega)).trans h.fn,(hw.block _ (by omega)).trans h.a,(hw.block _ (by omega)).trans h.b,(hw.block _ (by omega)).trans h.r⟩
theorem XH(w:World)(f:Value)(a b:Rt):Zk w f a b ((((w.alloc (.cells #[f] 236)).alloc (.cells #[.int .i64 a.n,.int .i64 a.d] 58)).alloc (.cells #[.int .i64 b.n,.int .i64 b.d] 58)).alloc (.cells #[.int .i64 0,.int .i64 0] 58)):=by
 have h1:=World.alloc_heap_new w (.cells #[f] 236)
 have h2:=World.alloc_heap_new (w.alloc (.cells #[f] 236)) (.cells #[iV a.n,iV a.d] 58)
 have h3:=World.alloc_heap_new ((w.alloc (.cells #[f] 236)).alloc (.cells #[iV a.n,iV a.d] 58)) (.cells #[iV b.n,iV b.d] 58)
 have c:=World.alloc_heap_new (((w.alloc (.cells #[f] 236)).alloc (.cells #[iV a.n,iV a.d] 58)).alloc (.cells #[iV b.n,iV b.d] 58)) (.cells jF 58)
 simp only[ze] at h2 h3 c
 refine ⟨((((yg _ _).alloc (yi _) _).alloc (by simp) _).alloc (by simp<;>omega) _).alloc (by simp<;>omega) _,?_,?_,?_,c⟩
 ·exact (yp _ _ _ (by simp<;>omega)).trans ((yp _ _ _ (by simp<;>omega)).trans ((yp _ _ _ (by simp)).trans h1))
 ·exact (yp _ _ _ (by simp<;>omega)).trans ((yp _ _ _ (by simp)).trans h2)
 exact (yp _ _ _ (by simp)).trans h3
theorem Ey{W:World}{b:Nat}{x:Value}{t:TypeId}(h:W.heap[b]?=some (.cells #[x] t (0,0))):W.cell? ⟨b,0,none⟩=some x:=by simp[World.cell?,h]
theorem LS(op:Int)(id:FuncId)(a b:Rt)(hen:∀args W,(callFunc id args).run prog W=.ok (.enter id args) W)(hc:AJ a=true->AJ b=true->∀W,Calls prog id #[a.v,b.v] W (Ul op a b W))(hp:AJ a=true->AJ b=true->(FK op a b).1.natAbs<=4611686018427387904/\(FK op a b).2.natAbs<=4611686018427387904)(w:World):
  Calls prog 127 #[.agg #[.func (.func id) #[] #[]],a.v,b.v] w λe w'=>e=.returned (.tuple #[(RF op a b).1.v,.int .i64 (RF op a b).2])/\Below w.heap.size w w':=by
 have HCa:Hid (∀W,Calls prog 132 #[a.v] W λe w'=>e=.returned (iV (Nz (AJ a)))/\Below W.heap.size W w'):=yb (Hw a)
 have HCb:Hid (∀W,Calls prog 132 #[b.v] W λe w'=>e=.returned (iV (Nz (AJ b)))/\Below W.heap.size W w'):=yb (Hw b)
 unfold RF
 have Hc:=yb hc
 have Hp:=yb hp
 clear hc hp
 generalize hca:AJ a=ca at*
 generalize hcb:AJ b=cb at*
 clear hca hcb
 obtain ⟨an,ad⟩:=a
 obtain ⟨bn,bd⟩:=b
 unfold Rt.v at*
 dsimp only at*
 have HW0:=yb (XH w (.func (.func id) #[] #[]) ⟨an,ad⟩ ⟨bn,bd⟩)
 dsimp only at HW0
 go_enter func127,ntmps127
 refine Ai λK hK=>?_
 go_wp2
 refine hK.o _ _ ?_
 clear hK
 generalize hW:(((w.alloc (.cells #[.func (.func id) #[] #[]] 236)).alloc (.cells #[iV an,iV ad] 58)).alloc (.cells #[iV bn,iV bd] 58)).alloc (.cells jF 58)=W0 at*
 clear hW
 obtain ⟨a0,a1,af0,af1⟩:=FB HW0.o.a
 obtain ⟨b0,b1,bf0,bf1⟩:=FB HW0.o.b
 obtain ⟨r0,r1,rf0,rf1⟩:=FB HW0.o.r
 have p0:=Ey HW0.o.fn
 cases ca with
 |false=>
  have HC:Hid (∀W,Calls prog 132 #[.agg #[iV an,iV ad]] W λe w'=>e=.returned (iV 120)/\Below W.heap.size W w'):=HCa
  clear HCa HCb
  go_wp2_with (first|(go_at_call 132;with_reducible refine (HC.o _).mono ?_;rintro e w2 ⟨rfl,hw2⟩;have HW2:=yb (HW0.o.up hw2);clear HW0 hw2 p0 r0 r1 rf0 rf1 a0 a1 af0 af1 b0 b1 bf0 bf1;obtain ⟨r0,r1,rf0,rf1⟩:=FB HW2.o.r))
  exact Ab rfl rfl (E9 (DS HW2.o.r)) ju rfl (by kernel_rfl) ⟨rfl,Ah (Ah HW2.o.below (by omega) _) (by omega) _⟩
 |true=>
  have HC:Hid (∀W,Calls prog 132 #[.agg #[iV an,iV ad]] W λe w'=>e=.returned (iV 0)/\Below W.heap.size W w'):=HCa
  cases cb with
  |false=>
   have HD:Hid (∀W,Calls prog 132 #[.agg #[iV bn,iV bd]] W λe w'=>e=.returned (iV 120)/\Below W.heap.size W w'):=HCb
   clear HCa HCb
   go_wp2_with (first|(go_at_call 132;with_reducible refine (HC.o _).mono ?_;rintro e w2 ⟨rfl,hw2⟩;have HW2:=yb (HW0.o.up hw2);clear HW0 hw2 p0 r0 r1 rf0 rf1 a0 a1 af0 af1 b0 b1 bf0 bf1;obtain ⟨b0,b1,bf0,bf1⟩:=FB HW2.o.b)|(go_at_call 132;with_reducible refine (HD.o _).mono ?_;rintro e w3 ⟨rfl,hw3⟩;have HW3:=yb (HW2.o.up hw3);clear HW2 hw3 b0 b1 bf0 bf1;obtain ⟨r0,r1,rf0,rf1⟩:=FB HW3.o.r))
   exact Ab rfl rfl (E9 (DS HW3.o.r)) ju rfl (by kernel_rfl) ⟨rfl,Ah (Ah HW3.o.below (by omega) _) (by omega) _⟩
  |true=>
   have HD:Hid (∀W,Calls prog 132 #[.agg #[iV bn,iV bd]] W λe w'=>e=.returned (iV 0)/\Below W.heap.size W w'):=HCb
   clear HCa HCb
   have hp:=Hp.o rfl rfl
   have HMk:Hid (∀W,Calls prog 138 #[iV (FK op ⟨an,ad⟩ ⟨bn,bd⟩).1,iV (FK op ⟨an,ad⟩ ⟨bn,bd⟩).2] W λe w'=>e=.returned (.tuple #[(Gm (FK op ⟨an,ad⟩ ⟨bn,bd⟩).1 (FK op ⟨an,ad⟩ ⟨bn,bd⟩).2).1.v,iV (Gm (FK op ⟨an,ad⟩ ⟨bn,bd⟩).1 (FK op ⟨an,ad⟩ ⟨bn,bd⟩).2).2])/\Below W.heap.size W w'):=yb (λW=>Uk _ _ (by omega) (by omega) (by omega) (by omega) W)
   have HCl:=yb (Hc.o rfl rfl)
   unfold Ul at HCl
   clear hp Hp Hc
   simp only[Bool.and_self,xi]
   generalize FK op ⟨an,ad⟩ ⟨bn,bd⟩=rr at*
   obtain ⟨x,y⟩:=rr
   dsimp only at*
   generalize Gm x y=mm at*
   obtain ⟨⟨mn,md⟩,me⟩:=mm
   unfold Rt.v at*
   dsimp only at*
   go_wp2_with (first|(go_at_call 132;with_reducible refine (HC.o _).mono ?_;rintro e w2 ⟨rfl,hw2⟩;have HW2:=yb (HW0.o.up hw2);clear HW0 hw2 p0 r0 r1 rf0 rf1 a0 a1 af0 af1 b0 b1 bf0 bf1;obtain ⟨b0,b1,bf0,bf1⟩:=FB HW2.o.b)|(go_at_call 132;with_reducible refine (HD.o _).mono ?_;rintro e w3 ⟨rfl,hw3⟩;have HW3:=yb (HW2.o.up hw3);clear HW2 hw3 b0 b1 bf0 bf1;obtain ⟨a0,a1,af0,af1⟩:=FB HW3.o.a;obtain ⟨b0,b1,bf0,bf1⟩:=FB HW3.o.b;have p0:=Ey HW3.o.fn)|fail)
   refine (HCl.o _).mono ?_
   rintro e w4 ⟨rfl,hw4⟩
   have HW4:=yb (HW3.o.up hw4)
   clear HW3 hw4 a0 a1 af0 af1 b0 b1 bf0 bf1 p0
   go_wp2_with (first|(go_at_call 138;with_reducible refine (HMk.o _).mono ?_;rintro e w5 ⟨rfl,hw5⟩;have HW5:=yb (HW4.o.up hw5);clear HW4 hw5;obtain ⟨r0,r1,rf0,rf1⟩:=FB HW5.o.r))
   exact Ab rfl rfl (E9 (DS HW5.o.r)) ju rfl (by kernel_rfl) ⟨rfl,Ah (Ah HW5.o.below (by omega) _) (by omega) _⟩
theorem Ep(w:World)(o1 o2 a:Obj):(((w.alloc o1).alloc o2).alloc a).heap[w.heap.size+1+1]?=some a:=by
 have h:=World.alloc_heap_new ((w.alloc o1).alloc o2) a
 simpa only[ze] using h
def YW(op:Int)(a b:Rt)(w:World)(e:Ending)(w':World):Prop:=e=.returned (.tuple #[(RF op a b).1.v,.int .i64 (RF op a b).2])/\Below w.heap.size w w'
theorem P7(a b:Rt)(w:World):
  Calls prog 104 #[a.v,b.v] w (YW 3 a b w)/\Calls prog 105 #[a.v,b.v] w (YW 4 a b w)/\Calls prog 107 #[a.v,b.v] w (YW 5 a b w)/\Calls prog 108 #[a.v,b.v] w (YW 6 a b w):=by
 have d:∀op,AJ a=true->AJ b=true->(FK op a b).1.natAbs<=4611686018427387904/\(FK op a b).2.natAbs<=4611686018427387904:=by
  intro op f hb
  have h1:=XG f
  have h2:=XG hb
  have C:=NA h1.1 h2.2
  have O:=NA h2.1 h1.2
  have L:=NA h1.2 h2.2
  have N:=NA h1.1 h2.1
  have x:=NA h1.2 h2.1
  unfold FK
  split
  ·constructor<;>dsimp only<;>omega
  split
  ·constructor<;>dsimp only<;>omega
  split<;>constructor<;>dsimp only<;>omega
 have p:=λW=>LS 3 126 a b (λ_ _=>rfl) (λf hb W=>(LR a b f hb W).1) (d 3) W
 have n:=λW=>LS 4 128 a b (λ_ _=>rfl) (λf hb W=>(LR a b f hb W).2.1) (d 4) W
 have l:=λW=>LS 5 130 a b (λ_ _=>rfl) (λf hb W=>(LR a b f hb W).2.2.1) (d 5) W
 have m:=λW=>LS 6 131 a b (λ_ _=>rfl) (λf hb W=>(LR a b f hb W).2.2.2) (d 6) W
 unfold YW
 generalize RF 3 a b=s at*
 generalize RF 4 a b=t at*
 generalize RF 5 a b=r at*
 generalize RF 6 a b=q at*
 obtain ⟨⟨G,d3⟩,E⟩:=s
 obtain ⟨⟨K,d4⟩,A⟩:=t
 obtain ⟨⟨J,H⟩,y⟩:=r
 obtain ⟨⟨D,F⟩,I⟩:=q
 obtain ⟨u,z⟩:=a
 obtain ⟨B,M⟩:=b
 unfold Rt.v at*
 dsimp only at*
 clear d
 have p:=yb p
 have n:=yb n
 have l:=yb l
 have m:=yb m
 refine ⟨?_,?_,?_,?_⟩
 ·go_enter func104,ntmps104
  go_wp2_with (first|(go_at_call 127;with_reducible refine (p.o _).mono ?_;rintro e w2 ⟨rfl,c⟩;have hr:=(c.block (w.heap.size+1+1) (by simp)).trans (Ep _ _ _ _);have g:=yb hr;obtain ⟨k,r1,i,h⟩:=FB hr;have j:=yb (((((yg w.heap.size w).alloc (yi _) _).alloc (by simp) _).alloc (by simp<;>omega) _).trans (c.mono (by simp<;>omega)));clear c hr))
  exact Ab rfl rfl (E9 (DS g.o)) ju rfl (by kernel_rfl) ⟨rfl,Ah (Ah j.o (by omega) _) (by omega) _⟩
 ·go_enter func105,ntmps105
  go_wp2_with (first|(go_at_call 127;with_reducible refine (n.o _).mono ?_;rintro e w2 ⟨rfl,c⟩;have hr:=(c.block (w.heap.size+1+1) (by simp)).trans (Ep _ _ _ _);have g:=yb hr;obtain ⟨k,r1,i,h⟩:=FB hr;have j:=yb (((((yg w.heap.size w).alloc (yi _) _).alloc (by simp) _).alloc (by simp<;>omega) _).trans (c.mono (by simp<;>omega)));clear c hr))
  exact Ab rfl rfl (E9 (DS g.o)) ju rfl (by kernel_rfl) ⟨rfl,Ah (Ah j.o (by omega) _) (by omega) _⟩
 ·go_enter func107,ntmps107
  go_wp2_with (first|(go_at_call 127;with_reducible refine (l.o _).mono ?_;rintro e w2 ⟨rfl,c⟩;have hr:=(c.block (w.heap.size+1+1) (by simp)).trans (Ep _ _ _ _);have g:=yb hr;obtain ⟨k,r1,i,h⟩:=FB hr;have j:=yb (((((yg w.heap.size w).alloc (yi _) _).alloc (by simp) _).alloc (by simp<;>omega) _).trans (c.mono (by simp<;>omega)));clear c hr))
  exact Ab rfl rfl (E9 (DS g.o)) ju rfl (by kernel_rfl) ⟨rfl,Ah (Ah j.o (by omega) _) (by omega) _⟩
 go_enter func108,ntmps108
 go_wp2_with (first|(go_at_call 127;with_reducible refine (m.o _).mono ?_;rintro e w2 ⟨rfl,c⟩;have hr:=(c.block (w.heap.size+1+1) (by simp)).trans (Ep _ _ _ _);have g:=yb hr;obtain ⟨k,r1,i,h⟩:=FB hr;have j:=yb (((((yg w.heap.size w).alloc (yi _) _).alloc (by simp) _).alloc (by simp<;>omega) _).trans (c.mono (by simp<;>omega)));clear c hr))
 exact Ab rfl rfl (E9 (DS g.o)) ju rfl (by kernel_rfl) ⟨rfl,Ah (Ah j.o (by omega) _) (by omega) _⟩
def Dm.row(d:Dm):LV:=[.int .i64 d.l,.int .i64 d.h,.int .i64 d.a]
def Dm.v(d:Dm):Value:=.agg #[.int .i64 d.l,.int .i64 d.h,.int .i64 d.a]
structure GU (w:World):Prop where
 size:6 < w.heap.size
 hours:w.rangeAt 0 0 (Dm.row ⟨0,1,0⟩)
 litres:w.rangeAt 1 0 (Dm.row ⟨1,0,0⟩)
 need:w.rangeAt 2 0 (Dm.row ⟨1,0, -1⟩)
 flow:w.rangeAt 3 0 (Dm.row ⟨1, -1,0⟩)
 none:w.rangeAt 4 0 (Dm.row VZ)
 ares:w.rangeAt 5 0 (Dm.row ⟨0,0,1⟩)
theorem GU.up{w w':World}(h:GU w)(hb:Below w.heap.size w w'):GU w':=by
 have hs:=h.size
 exact ⟨yx hs hb.size,A8 h.hours (hb.block _ (by omega)),A8 h.litres (hb.block _ (by omega)),A8 h.need (hb.block _ (by omega)),A8 h.flow (hb.block _ (by omega)),A8 h.none (hb.block _ (by omega)),A8 h.ares (hb.block _ (by omega))⟩
theorem MB{w:World}{b o:Nat}{x y z:Value}(h:w.rangeAt b o [x,y,z]):w.cell? ⟨b,o,none⟩=some x/\w.cell? ⟨b,o+1,none⟩=some y/\w.cell? ⟨b,o+2,none⟩=some z:=
 ⟨h 0 _ rfl,h 1 _ rfl,h 2 _ rfl⟩
theorem IJ{W:World}{b:Nat}{x y z:Value}{t:TypeId}(h:W.heap[b]?=some (.cells #[x,y,z] t (0,0))):W.cell? ⟨b,0,none⟩=some x/\W.cell? ⟨b,1,none⟩=some y/\W.cell? ⟨b,2,none⟩=some z/\W.frozen? ⟨b,0,none⟩=false/\W.frozen? ⟨b,1,none⟩=false/\W.frozen? ⟨b,2,none⟩=false:=by
 refine ⟨?_,?_,?_,?_,?_,?_⟩<;>simp[World.cell?,World.frozen?,h]
theorem EF{W:World}{b:Nat}{x y z v:Value}{t:TypeId}(h:W.heap[b]?=some (.cells #[x,y,z] t (0,0))):(W.setCell ⟨b,0,none⟩ v).heap[b]?=some (.cells #[v,y,z] t (0,0)):=by
 simp[World.setCell,yH,h]
theorem EG{W:World}{b:Nat}{x y z v:Value}{t:TypeId}(h:W.heap[b]?=some (.cells #[x,y,z] t (0,0))):(W.setCell ⟨b,1,none⟩ v).heap[b]?=some (.cells #[x,v,z] t (0,0)):=by
 simp[World.setCell,yH,h]
theorem EH{W:World}{b:Nat}{x y z v:Value}{t:TypeId}(h:W.heap[b]?=some (.cells #[x,y,z] t (0,0))):(W.setCell ⟨b,2,none⟩ v).heap[b]?=some (.cells #[x,y,v] t (0,0)):=by
 simp[World.setCell,yH,h]
theorem Wb(u:Int)(w:World)(hg:GU w):Calls prog 68 #[.int .i64 u] w λe w'=>e=.returned (.tuple #[(II u).v,.int .i64 (Fo u)])/\Below w.heap.size w w':=by
 have a:=hg.up ((yg w.heap.size w).alloc (yi _) (.cells jH 102))
 have b:=yb (World.alloc_heap_new w (.cells jH 102))
 have d:Hid (Below w.heap.size w (w.alloc (.cells jH 102))):=yb ((yg _ _).alloc (yi _) _)
 go_enter func68,ntmps68
 refine Ai λK l=>?_
 go_wp2
 refine l.o _ _ ?_
 clear l hg
 generalize w.alloc (.cells jH 102)=W at*
 have p:w.heap.size < W.heap.size:=(yd.1 b.o).1
 obtain ⟨a0,A,D⟩:=MB a.hours
 obtain ⟨t,b1,b2⟩:=MB a.litres
 obtain ⟨c0,c1,c2⟩:=MB a.none
 obtain ⟨q,z,s⟩:=MB a.ares
 obtain ⟨x,r1,r2,C,r,B⟩:=IJ b.o
 clear a p
 have t1:¬ u=1->(u==1)=false:=λh=>by simpa using h
 have t2:¬ u=2->(u==2)=false:=λh=>by simpa using h
 have t3:¬ u=3->(u==3)=false:=λh=>by simpa using h
 have t4:¬ u=4->(u==4)=false:=λh=>by simpa using h
 have t5:¬ u=5->(u==5)=false:=λh=>by simpa using h
 have c:=yb (And.intro t1 (And.intro t2 (And.intro t3 (And.intro t4 t5))))
 clear t1 t2 t3 t4 t5
 by_cases h1:u=1
 ·subst h1
  clear c
  go_wp2
  exact Ab rfl rfl (EH (EG (EF b.o))) qU rfl (by kernel_rfl) ⟨rfl,Ah (Ah (Ah d.o (by omega) _) (by omega) _) (by omega) _⟩
 have g:=c.o.1 h1
 by_cases h2:u=2
 ·subst h2
  clear h1 g
  go_wp2
  exact Ab rfl rfl (EH (EG (EF b.o))) qU rfl (by kernel_rfl) ⟨rfl,Ah (Ah (Ah d.o (by omega) _) (by omega) _) (by omega) _⟩
 have k:=c.o.2.1 h2
 by_cases h3:u=3
 ·subst h3
  clear h1 h2 g k
  go_wp2
  exact Ab rfl rfl (EH (EG (EF b.o))) qU rfl (by kernel_rfl) ⟨rfl,Ah (Ah (Ah d.o (by omega) _) (by omega) _) (by omega) _⟩
 have m:=c.o.2.2.1 h3
 by_cases f:u=4
 ·subst f
  clear h1 h2 h3 g k m
  go_wp2
  exact Ab rfl rfl (EH (EG (EF b.o))) qU rfl (by kernel_rfl) ⟨rfl,Ah (Ah (Ah d.o (by omega) _) (by omega) _) (by omega) _⟩
 have n:=c.o.2.2.2.1 f
 by_cases i:u=5
 ·subst i
  clear h1 h2 h3 f g k m n
  go_wp2
  exact Ab rfl rfl (EH (EG (EF b.o))) qU rfl (by kernel_rfl) ⟨rfl,Ah (Ah (Ah d.o (by omega) _) (by omega) _) (by omega) _⟩
 have y:=c.o.2.2.2.2 i
 have j:Hid (II u=VZ/\Fo u=1):=yb (by unfold II Fo;simp[h1,h2,h3,f,i])
 rw[j.o.1,j.o.2]
 clear h1 h2 h3 f i c j
 go_wp2
 exact Ab rfl rfl (EH (EG (EF b.o))) qU rfl (by kernel_rfl) ⟨rfl,Ah (Ah (Ah d.o (by omega) _) (by omega) _) (by omega) _⟩
theorem Qu(a b c d e f:Int)(w:World):(Op.equalIn 10000 102 (.agg #[.int .i64 a,.int .i64 b,.int .i64 c]) (.agg #[.int .i64 d,.int .i64 e,.int .i64 f])).run prog w=.ok (decide (a=d)&&(decide (b=e)&&decide (c=f))) w:=by
 have k:prog.underlying 102=some (.array 3 3):=qU
 have hi:prog.underlying 3=some (.int .i64):=je
 have hs:∀w,(sizeOf 3).run prog w=.ok 1 w:=λw=>by kernel_rfl
 have hg:∀w,(isAgg 3).run prog w=.ok false w:=λw=>by
  unfold isAgg
  rw[xt,xY hi w];rfl
 have g:∀x y w,(Op.equalIn 9999 3 (iV x) (iV y)).run prog w=.ok (x==y) w:=λx y w=>run_equalIn_int w 9998 _ _ _ x y hi
 rw[Op.equalIn]
 rw[xt,xY k,xU]
 simp only[xt,hs,xU,Std.Legacy.Range.forIn_eq_forIn_range',Std.Legacy.Range.size,List.range']
 simp only[List.forIn_cons,List.forIn_nil,part,xt,hg,xU]
 by_cases h1:a=d
 ·by_cases h2:b=e
  ·by_cases h3:c=f
   ·subst h1 h2 h3;simp[g,hg,xt,Result.andThen]
   have h:(c==f)=false:=by simpa using h3
   subst h1 h2;simp[g,hg,xt,Result.andThen,h3,h]
  have j:(b==e)=false:=by simpa using h2
  subst h1;simp[g,hg,xt,Result.andThen,h2,j]
 have i:(a==d)=false:=by simpa using h1
 simp[g,Result.andThen,h1,i]
theorem MD(a b:Dm)(w:World):Calls prog 103 #[a.v,b.v] w λe w'=>e=.returned (.tuple #[a.v,.bool (decide (a=b))])/\Below w.heap.size w w':=by
 obtain ⟨d,f,c⟩:=a
 obtain ⟨bl,i,h⟩:=b
 unfold Dm.v
 dsimp only
 have j:=Qu d f c bl i h
 have k:prog.eqGuardType prog.depth 102=false:=by kernel_rfl
 go_enter func103,ntmps103
 go_wp2
 go_region
 go_wp2
 have g:decide ((⟨d,f,c⟩:Dm)=⟨bl,i,h⟩)=(decide (d=bl)&&(decide (f=i)&&decide (c=h))):=by
  rw[zo];simp[Dm.mk.injEq]
 rw[g]
 exact Ab rfl rfl (Ep w _ _ (.cells #[iV d,iV f,iV c] 102)) qU rfl (by kernel_rfl) ⟨rfl,((((yg _ _).alloc (yi _) _).alloc (by simp) _).alloc (by simp<;>omega) _).drew⟩
theorem XI(s:Int)(w:World):Calls prog 106 #[.int .i64 s] w λe w'=>e=.returned (.func (.func 129) #[] #[.pointer (some ⟨w.heap.size,0,none⟩)])/\w'=w.alloc (.cells #[.int .i64 s] 3):=by
 have a:∀(fn:Fn) (first cap:Array Value) (w:World),(Instr.makeFunc fn first cap).run prog w=.ok (.func fn first cap) w:=λ_ _ _ _=>rfl
 go_enter func106,ntmps106
 go_wp2
 go_ret
 exact ⟨rfl,rfl⟩
structure NC (w:World) (B:Nat) (s l h a:Int) (b:Dm) (W:World):Prop where
 below:Below w.heap.size w W
 s:W.cell? ⟨B,0,none⟩=some (.int .i64 s)
 a:W.heap[w.heap.size]?=some (.cells #[.int .i64 l,.int .i64 h,.int .i64 a] 102 (0,0))
 b:W.heap[w.heap.size+1]?=some (.cells #[.int .i64 b.l,.int .i64 b.h,.int .i64 b.a] 102 (0,0))
 r:W.heap[w.heap.size+1+1]?=some (.cells #[.int .i64 0,.int .i64 0,.int .i64 0] 102 (0,0))
theorem KL(w:World)(o1 o2 a:Obj):(((w.alloc o1).alloc o2).alloc a).heap[w.heap.size]?=some o1:=
 (yp _ _ _ (by simp<;>omega)).trans ((yp _ _ _ (by simp)).trans (World.alloc_heap_new w o1))
theorem JN(w:World)(o1 o2 a:Obj):(((w.alloc o1).alloc o2).alloc a).heap[w.heap.size+1]?=some o2:=by
 have h:=World.alloc_heap_new (w.alloc o1) o2
 simp only[ze] at h
 exact (yp _ _ _ (by simp)).trans h
theorem Jb(w:World)(o1 o2 a:Obj):Below w.heap.size w (((w.alloc o1).alloc o2).alloc a):=(((yg _ _).alloc (yi _) _).alloc (by simp) _).alloc (by simp<;>omega) _
theorem NC.drew{w:World}{B:Nat}{s l h a:Int}{b:Dm}{W:World}(k:NC w B s l h a b W):NC w B s l h a b W.drew:=⟨k.below.drew,k.s,k.a,k.b,k.r⟩
theorem NC.set{w:World}{B:Nat}{s l h a l' c d:Int}{b:Dm}{W W':World}(k:NC w B s l h a b W)(hw:H8 W W' w.heap.size [.int .i64 l',.int .i64 c,.int .i64 d] 102)(e:B < w.heap.size):NC w B s l' c d b W':=by
 refine ⟨hw.below k.below (yi _),?_,hw.row,(hw.block _ (by omega)).trans k.b,(hw.block _ (by omega)).trans k.r⟩
 have:=k.s
 unfold World.cell? at this |-
 rw[hw.block B (by omega)];exact this
theorem Sj{W:World}{b:Nat}{x y z:Value}{t:TypeId}(h:W.heap[b]?=some (.cells #[x,y,z] t (0,0)))(v:Value):H8 W (W.setCell ⟨b,0,none⟩ v) b [v,y,z] t/\H8 W (W.setCell ⟨b,1,none⟩ v) b [x,v,z] t/\H8 W (W.setCell ⟨b,2,none⟩ v) b [x,y,v] t:=
 ⟨⟨rfl,rfl,rfl,by simp,EF h,λk a=>qd W ⟨b,0,none⟩ v k a⟩,⟨rfl,rfl,rfl,by simp,EG h,λk a=>qd W ⟨b,1,none⟩ v k a⟩,⟨rfl,rfl,rfl,by simp,EH h,λk a=>qd W ⟨b,2,none⟩ v k a⟩⟩
theorem KM{n:Int}(h:Vi n=true): -4<=n/\n<=4:=by unfold Vi at h;simpa using h
theorem Qv(op:Int)(s:Int)(hs:(op=5/\s=1)\/(op=6/\s= -1))(a b:Dm)(Z:Ih a=true)(hb:Ih b=true)(B:Nat)(w:World)(hB:w.cell? ⟨B,0,none⟩=some (.int .i64 s)):
  Calls prog 129 #[a.v,b.v,.pointer (some ⟨B,0,none⟩)] w λe w'=>e=.returned (.tuple #[(To op a b).1.v,.bool (To op a b).2])/\Below w.heap.size w w':=by
 have R:Hid (To op a b=if Ih (Uj s a b)=true then (Uj s a b,true) else (VZ,false)):=yb (by
  unfold To
  rcases hs with ⟨rfl,rfl⟩|⟨rfl,rfl⟩
  ·rw[ym (by decide)];rfl
  rw[ym (by decide)];rfl)
 have M:Hid (B < w.heap.size):=yb (yU _ _ hB)
 generalize To op a b=a6 at R |-
 obtain ⟨O,N,J⟩:=a
 obtain ⟨bl,t,u⟩:=b
 unfold Ih at Z hb
 simp only[yw] at Z hb
 have g1:=KM Z.1
 have g2:=KM Z.2.1
 have g3:=KM Z.2.2
 have g4:=KM hb.1
 have g5:=KM hb.2.1
 have g6:=KM hb.2.2
 have L:s=1\/s= -1:=by omega
 have q1:wrap64 (s*bl)=s*bl/\wrap64 (O+s*bl)=O+s*bl:=by rcases L with rfl|rfl<;>exact ⟨Ay (by omega),Ay (by omega)⟩
 have q2:wrap64 (s*t)=s*t/\wrap64 (N+s*t)=N+s*t:=by rcases L with rfl|rfl<;>exact ⟨Ay (by omega),Ay (by omega)⟩
 have q3:wrap64 (s*u)=s*u/\wrap64 (J+s*u)=J+s*u:=by rcases L with rfl|rfl<;>exact ⟨Ay (by omega),Ay (by omega)⟩
 obtain ⟨h,S⟩:∃x,x=O+s*bl:=⟨_,rfl⟩
 obtain ⟨i,V⟩:∃x,x=N+s*t:=⟨_,rfl⟩
 obtain ⟨m,U⟩:∃x,x=J+s*u:=⟨_,rfl⟩
 have Q:Uj s ⟨O,N,J⟩ ⟨bl,t,u⟩=⟨h,i,m⟩:=by unfold Uj;rw[S,V,U]
 have q:Hid (a6=if Ih ⟨h,i,m⟩=true then (⟨h,i,m⟩,true) else (VZ,false)):=yb (by rw[R.o,Q])
 obtain ⟨y1,X⟩:∃y,y=s*bl:=⟨_,rfl⟩
 obtain ⟨y2,T⟩:∃y,y=s*t:=⟨_,rfl⟩
 obtain ⟨y3,Y⟩:∃y,y=s*u:=⟨_,rfl⟩
 have p1:wrap64 (s*bl)=y1:=by rw[X];exact q1.1
 have p2:wrap64 (s*t)=y2:=by rw[T];exact q2.1
 have p3:wrap64 (s*u)=y3:=by rw[Y];exact q3.1
 have r1:wrap64 (O+y1)=h:=by rw[S,X];exact q1.2
 have r2:wrap64 (N+y2)=i:=by rw[V,T];exact q2.2
 have r3:wrap64 (J+y3)=m:=by rw[U,Y];exact q3.2
 clear hs L R Q Z hb g1 g2 g3 g4 g5 g6 q1 q2 q3 S V U X T Y
 unfold Dm.v
 dsimp only
 have c:Hid (NC w B s O N J ⟨bl,t,u⟩ (((w.alloc (.cells #[iV O,iV N,iV J] 102)).alloc (.cells #[iV bl,iV t,iV u] 102)).alloc (.cells jH 102))):=yb ⟨Jb _ _ _ _,((Jb w _ _ _).cell (p:=(aV B 0)) M.o).trans hB,KL _ _ _ _,JN _ _ _ _,Ep _ _ _ _⟩
 clear hB
 go_enter func129,ntmps129
 refine Ai λK hK=>?_
 go_wp2
 refine hK.o _ _ ?_
 clear hK
 generalize ((w.alloc (.cells #[iV O,iV N,iV J] 102)).alloc (.cells #[iV bl,iV t,iV u] 102)).alloc (.cells jH 102)=W at c |-
 go_wp2
 refine q9 4 ?_
 rw[zQ]
 obtain ⟨a0,D,E,l,j,k⟩:=IJ c.o.a
 obtain ⟨b0,b1,b2,I,G,H⟩:=IJ c.o.b
 have s0:=c.o.s
 have n:Hid (NC w B s h N J ⟨bl,t,u⟩ (W.setCell (aV w.heap.size 0) (iV h)).drew):=yb (c.o.set (Sj c.o.a (iV h)).1 M.o).drew
 go_wp2
 go_region
 clear a0 D E l j k b0 b1 b2 I G H s0 c
 generalize (W.setCell (aV w.heap.size 0) (iV h)).drew=W at n |-
 have c:=n
 clear n
 obtain ⟨a0,D,E,l,j,k⟩:=IJ c.o.a
 obtain ⟨c0,c1,c2,C,z,A⟩:=IJ c.o.r
 by_cases d:h < -4
 ·have F:decide (h < -4)=true:=by simpa using d
  have g:Hid (¬ Ih ⟨h,i,m⟩=true):=yb (by unfold Ih Vi;simp;omega)
  clear d
  go_wp2
  refine Ab rfl rfl (EH (EG (EF c.o.r))) qU rfl (by kernel_rfl) ⟨?_,Ah (Ah (Ah c.o.below (by omega) _) (by omega) _) (by omega) _⟩
  rw[q.o,ym g.o];rfl
 by_cases f:4 < h
 ·have F:decide (h < -4)=false:=by simpa using d
  have P:decide (4 < h)=true:=by simpa using f
  have g:Hid (¬ Ih ⟨h,i,m⟩=true):=yb (by unfold Ih Vi;simp;omega)
  clear d f
  go_wp2
  refine Ab rfl rfl (EH (EG (EF c.o.r))) qU rfl (by kernel_rfl) ⟨?_,Ah (Ah (Ah c.o.below (by omega) _) (by omega) _) (by omega) _⟩
  rw[q.o,ym g.o];rfl
 have ab:Hid (-4<=h/\h<=4):=yb (by omega)
 have F:decide (h < -4)=false:=by simpa using d
 have P:decide (4 < h)=false:=by simpa using f
 clear d f
 go_wp2
 clear F P a0 D E l j k c0 c1 c2 C z A
 rw[zQ]
 obtain ⟨a0,D,E,l,j,k⟩:=IJ c.o.a
 obtain ⟨b0,b1,b2,I,G,H⟩:=IJ c.o.b
 have s0:=c.o.s
 have n:Hid (NC w B s h i J ⟨bl,t,u⟩ (W.setCell (aV w.heap.size 1) (iV i)).drew):=yb (c.o.set (Sj c.o.a (iV i)).2.1 M.o).drew
 go_wp2
 go_region
 clear a0 D E l j k b0 b1 b2 I G H s0 c
 generalize (W.setCell (aV w.heap.size 1) (iV i)).drew=W at n |-
 have c:=n
 clear n
 obtain ⟨a0,D,E,l,j,k⟩:=IJ c.o.a
 obtain ⟨c0,c1,c2,C,z,A⟩:=IJ c.o.r
 by_cases d:i < -4
 ·have F:decide (i < -4)=true:=by simpa using d
  have g:Hid (¬ Ih ⟨h,i,m⟩=true):=yb (by unfold Ih Vi;simp;omega)
  clear d
  go_wp2
  refine Ab rfl rfl (EH (EG (EF c.o.r))) qU rfl (by kernel_rfl) ⟨?_,Ah (Ah (Ah c.o.below (by omega) _) (by omega) _) (by omega) _⟩
  rw[q.o,ym g.o];rfl
 by_cases f:4 < i
 ·have F:decide (i < -4)=false:=by simpa using d
  have P:decide (4 < i)=true:=by simpa using f
  have g:Hid (¬ Ih ⟨h,i,m⟩=true):=yb (by unfold Ih Vi;simp;omega)
  clear d f
  go_wp2
  refine Ab rfl rfl (EH (EG (EF c.o.r))) qU rfl (by kernel_rfl) ⟨?_,Ah (Ah (Ah c.o.below (by omega) _) (by omega) _) (by omega) _⟩
  rw[q.o,ym g.o];rfl
 have a8:Hid (-4<=i/\i<=4):=yb (by omega)
 have F:decide (i < -4)=false:=by simpa using d
 have P:decide (4 < i)=false:=by simpa using f
 clear d f
 go_wp2
 clear F P a0 D E l j k c0 c1 c2 C z A
 rw[zQ]
 obtain ⟨a0,D,E,l,j,k⟩:=IJ c.o.a
 obtain ⟨b0,b1,b2,I,G,H⟩:=IJ c.o.b
 have s0:=c.o.s
 have n:Hid (NC w B s h i m ⟨bl,t,u⟩ (W.setCell (aV w.heap.size 2) (iV m)).drew):=yb (c.o.set (Sj c.o.a (iV m)).2.2 M.o).drew
 go_wp2
 go_region
 clear a0 D E l j k b0 b1 b2 I G H s0 c
 generalize (W.setCell (aV w.heap.size 2) (iV m)).drew=W at n |-
 have c:=n
 clear n
 obtain ⟨a0,D,E,l,j,k⟩:=IJ c.o.a
 obtain ⟨c0,c1,c2,C,z,A⟩:=IJ c.o.r
 by_cases d:m < -4
 ·have F:decide (m < -4)=true:=by simpa using d
  have g:Hid (¬ Ih ⟨h,i,m⟩=true):=yb (by unfold Ih Vi;simp;omega)
  clear d
  go_wp2
  refine Ab rfl rfl (EH (EG (EF c.o.r))) qU rfl (by kernel_rfl) ⟨?_,Ah (Ah (Ah c.o.below (by omega) _) (by omega) _) (by omega) _⟩
  rw[q.o,ym g.o];rfl
 by_cases f:4 < m
 ·have F:decide (m < -4)=false:=by simpa using d
  have P:decide (4 < m)=true:=by simpa using f
  have g:Hid (¬ Ih ⟨h,i,m⟩=true):=yb (by unfold Ih Vi;simp;omega)
  clear d f
  go_wp2
  refine Ab rfl rfl (EH (EG (EF c.o.r))) qU rfl (by kernel_rfl) ⟨?_,Ah (Ah (Ah c.o.below (by omega) _) (by omega) _) (by omega) _⟩
  rw[q.o,ym g.o];rfl
 have a7:Hid (-4<=m/\m<=4):=yb (by omega)
 have F:decide (m < -4)=false:=by simpa using d
 have P:decide (4 < m)=false:=by simpa using f
 clear d f
 go_wp2
 clear F P a0 D E l j k c0 c1 c2 C z A
 rw[zQ]
 obtain ⟨a0,D,E,l,j,k⟩:=IJ c.o.a
 obtain ⟨c0,c1,c2,C,z,A⟩:=IJ c.o.r
 go_wp2
 have g:Hid (Ih ⟨h,i,m⟩=true):=yb (by unfold Ih Vi;simp[ab.o,a8.o,a7.o])
 refine Ab rfl rfl (EH (EG (EF c.o.r))) qU rfl (by kernel_rfl) ⟨?_,Ah (Ah (Ah c.o.below (by omega) _) (by omega) _) (by omega) _⟩
 rw[q.o,yz g.o];rfl
end Go.Proofs.YtbdfinegbjdblaaGreatDoor
