/- Parts of the proof, in short words: Ro Rp Rr Sa Sb Sc Sd Se Sf Sg Sh Si Ua -/
import Derived.Test.YtghepahgkcigpaaRg0
import Derived.Test.YtghepahgkcigpaaRg7
import Derived.BigFrameIn
set_option maxRecDepth 100000
set_option maxHeartbeats 16000000
set_option linter.unusedSimpArgs false
namespace Go.Proofs.Ytghepahgkcigpaa
open Go.RowKit
theorem TY{Q:QT}{w V:World}{x:An}{L:Bh}{cs:LV}{N:NP}(hQ:Kk Q w x)(hP:Gq w x L cs N V)
 (hf:Bq x=true)(hw:Au x=if EJ x then (if CC (Tb.of x) x&&CK (Tb.of x) x then 0 else 170) else 171)
 (u0 u4 u5 u6 u7 u8 u9 dr cm e5 ca dt bw bm d0 cv dl cp ci ct d2 bz dj c9 c5 dk bo cn du d3 dg dz cl ce c7 cx di c8 c3 cz em ej eo el eu ek ei eg er ep eq en e3 de dq cd dy cb bq bs bp db d5 dp cw d7 bt d6 dh dn cc c4 cg cy dc cq cf d1 dm cj e4 cr d9 dw cu dx c6 bv ck ch dd d4 dv d8 bn bk co ax C ac R aq ad ap U ak ai S g ah i a0 r Z O ab F q E f y D ag m u az a8 bh aw a1 ay J z G A b3 b8 j H b9 ba v be al a7 M am T a6 ae af bd n aj ar ao X s bg an bb au Y d av I aa l K P a2:Value):
  Gf 11 Try.prog (CP 11 (Try.f11.body.getD .skip)) Q {tmps:=#[u0,.pointer (some ⟨w.heap.size,0,none⟩),.pointer (some ⟨w.heap.size+1,0,none⟩),.pointer (some ⟨w.heap.size+2,0,none⟩),u4,u5,u6,u7,u8,u9,dr,cm,e5,ca,dt,bw,bm,d0,cv,dl,cp,ci,ct,d2,bz,dj,c9,c5,dk,bo,cn,du,d3,dg,dz,cl,ce,c7,cx,di,c8,c3,cz,em,ej,eo,el,eu,ek,ei,eg,er,ep,eq,en,e3,de,dq,cd,dy,cb,bq,bs,bp,db,d5,dp,cw,d7,bt,d6,dh,dn,cc,c4,cg,cy,dc,cq,cf,d1,dm,cj,e4,cr,d9,dw,cu,dx,c6,bv,ck,ch,dd,d4,dv,d8,bn,bk,co,ax,C,ac,R,aq,ad,ap,U,ak,ai,S,g,ah,i,a0,r,Z,O,ab,F,q,E,f,y,D,ag,m,u,az,a8,bh,aw,a1,ay,J,z,G,A,b3,b8,j,H,b9,ba,v,be,al,a7,M,am,T,a6,ae,af,bd,n,aj,ar,ao,X,s,bg,an,bb,au,Y,d,av,I,aa,l,K,P,a2],defers:=[IP w.heap.size]} V:=by
 have bi:=yb (hP.at.nms fun _ h=>h)
 have b:=yb hP.cells
 have HZ:Hid (w.heap.size < V.heap.size):=yb (by have:=hP.size;omega)
 have HQ:=yb hQ;have HP:=yb hP;have c:=yb hP.slim
 have HF:=yb hf;have HW:=yb hw
 have bu:Hid (∀tm wr,KT w.heap.size tm->Below V.heap.size V wr->¬ EJ x->Q (.panic (Ek 171)) {tmps:=tm,defers:=[IP w.heap.size]} wr):=yb (fun tm wr hv hb hn=>by
  rw[yu hn] at hw
  have:=hQ.fail tm wr hv (hP.up (hb.mono hP.size)).amid (by rw[hw];decide)
  rw[hw] at this;exact this)
 clear hQ hP hf hw
 unfold IP
 refine Ad (A6 ?_)
 go_wp2_with fail
 refine TW (B:=w.heap.size) (h0:=L.lets) (h1:=L.crops) (h2:=L.reaches) (h3:=L.farms) (n0s:=x.lets.map (·.name)) (n1s:=x.crops.map (·.name)) (n2s:=x.reaches.map (·.name)) (n3s:=x.farms.map (·.name)) _ ?_ ?_ ?_ ?_ ?_ ?_ ?_ ?_ ?_ ?_ ?_ ?_ ?_ ?_
 ·rfl
 ·rfl
 ·rfl
 ·exact fun W hb=>⟨(hb.cell (p:=(aV w.heap.size 19)) HZ.o).trans b.o.lets,(hb.cell (p:=(aV w.heap.size 20)) HZ.o).trans b.o.crops,(hb.cell (p:=(aV w.heap.size 21)) HZ.o).trans b.o.reaches,(hb.cell (p:=(aV w.heap.size 22)) HZ.o).trans b.o.farms⟩
 ·exact fun W hb=>bi.o.lets.up hb
 ·exact fun W hb=>bi.o.crops.up hb
 ·exact fun W hb=>bi.o.reaches.up hb
 ·exact fun W hb=>bi.o.farms.up hb
 ·rw[yP];exact c.o.lets
 ·rw[yP];exact c.o.crops
 ·rw[yP];exact c.o.reaches
 ·rw[yP];exact c.o.farms
 ·intro a W da bj hb hn
  obtain ⟨tm,df⟩:=a
  obtain rfl:df=[IP w.heap.size]:=da
  exact bu.o tm W ⟨(bj 2 (by omega)).trans rfl,(bj 3 (by omega)).trans rfl⟩ hb (fun h=>hn ⟨h.1,h.2.1,h.2.2.1,h.2.2.2.1⟩)
 ·intro a W bl bc br bf eh da bj g4 g5 g6 g7 m4 m5 m6 m7 b4 b5 b6 b7 hb hn
  have e:a={tmps:=#[u0,pV w.heap.size 0,pV (w.heap.size+1) 0,pV (w.heap.size+2) 0,(a.tmps.getD 4 undef),(a.tmps.getD 5 undef),(a.tmps.getD 6 undef),(a.tmps.getD 7 undef),u8,u9,dr,cm,e5,ca,dt,bw,bm,d0,cv,dl,cp,ci,ct,d2,bz,dj,c9,c5,dk,bo,cn,du,d3,dg,dz,cl,ce,c7,cx,di,c8,c3,cz,(a.tmps.getD 43 undef),(a.tmps.getD 44 undef),(a.tmps.getD 45 undef),(a.tmps.getD 46 undef),(a.tmps.getD 47 undef),(a.tmps.getD 48 undef),(a.tmps.getD 49 undef),(a.tmps.getD 50 undef),(a.tmps.getD 51 undef),(a.tmps.getD 52 undef),(a.tmps.getD 53 undef),(a.tmps.getD 54 undef),e3,de,dq,cd,dy,cb,bq,bs,bp,db,d5,dp,cw,d7,bt,d6,dh,dn,cc,c4,cg,cy,dc,cq,cf,d1,dm,cj,e4,cr,d9,dw,cu,dx,c6,bv,ck,ch,dd,d4,dv,d8,bn,bk,co,ax,C,ac,R,aq,ad,ap,U,ak,ai,S,g,ah,i,a0,r,Z,O,ab,F,q,E,f,y,D,ag,m,u,az,a8,bh,aw,a1,ay,J,z,G,A,b3,b8,j,H,b9,ba,v,be,al,a7,M,am,T,a6,ae,af,bd,n,aj,ar,ao,X,s,bg,an,bb,au,Y,d,av,I,aa,l,K,P,a2],defers:=[IP w.heap.size]}:=(JE [4,5,6,7,43,44,45,46,47,48,49,50,51,52,53,54] (eh.trans rfl) da (fun t ht=>bj t ht)).trans (by kernel_rfl)
  rw[g4,g5,g6,g7] at e
  obtain ⟨e8,ea,ec,v46,ee,ef,e7,e6,v51,e9,ed,eb,rfl⟩:∃e8 ea ec v46 ee ef e7 e6 v51 e9 ed eb:Value,a={tmps:=#[u0,pV w.heap.size 0,pV (w.heap.size+1) 0,pV (w.heap.size+2) 0,pV bl 0,pV bc 0,pV br 0,pV bf 0,u8,u9,dr,cm,e5,ca,dt,bw,bm,d0,cv,dl,cp,ci,ct,d2,bz,dj,c9,c5,dk,bo,cn,du,d3,dg,dz,cl,ce,c7,cx,di,c8,c3,cz,e8,ea,ec,v46,ee,ef,e7,e6,v51,e9,ed,eb,e3,de,dq,cd,dy,cb,bq,bs,bp,db,d5,dp,cw,d7,bt,d6,dh,dn,cc,c4,cg,cy,dc,cq,cf,d1,dm,cj,e4,cr,d9,dw,cu,dx,c6,bv,ck,ch,dd,d4,dv,d8,bn,bk,co,ax,C,ac,R,aq,ad,ap,U,ak,ai,S,g,ah,i,a0,r,Z,O,ab,F,q,E,f,y,D,ag,m,u,az,a8,bh,aw,a1,ay,J,z,G,A,b3,b8,j,H,b9,ba,v,be,al,a7,M,am,T,a6,ae,af,bd,n,aj,ar,ao,X,s,bg,an,bb,au,Y,d,av,I,aa,l,K,P,a2],defers:=[IP w.heap.size]}:=⟨_,_,_,_,_,_,_,_,_,_,_,_,e⟩
  have et:Au x=if (Cn x).Nodup∧(x.duties.map (·.name)).Nodup then (if CC (Tb.of x) x&&CK (Tb.of x) x then 0 else 170) else 171:=by
   rw[HW.o]
   by_cases h:EJ x
   ·rw[yx h];exact (yx ⟨h.2.2.2.2.1,h.2.2.2.2.2⟩).symm
   ·rw[yu h];exact (yu (fun k=>h ⟨hn.1,hn.2.1,hn.2.2.1,hn.2.2.2,k.1,k.2⟩)).symm
  exact TX HQ.o (HP.o.up (hb.mono HP.o.size)) m4 m5 m6 m7 HF.o et _ _ _ _ _ _ _ _ _ _ _ _ _ _ _ _ _ _ _ _ _ _ _ _ _ _ _ _ _ _ _ _ _ _ _ _ _ _ _ _ _ _ _ _ _ _ _ _ _ _ _ _ _ _ _ _ _ _ _ _ _ _ _ _ _ _ _ _ _ _ _ _ _ _ _ _ _ _ _ _ _ _ _ _ _ _ _ _ _ _ _ _ _ _ _ _ _ _ _ _ _ _ _ _ _ _ _ _ _ _ _ _ _ _ _ _ _ _ _ _ _ _ _ _ _ _ _ _ _ _ _ _ _ _ _ _ _ _ _ _ _ _ _ _ _ _ _ _ _ _ _ _ _ _ _ _ _ _ _ _ _ _ _ _ _ _ _
theorem Tl{w:World}{nm:ByteArray}(a:nm.size<=maxLen):AZ (w.alloc (.cells #[.string nm] 9)) ⟨some ⟨w.heap.size,0,none⟩,1,1⟩ 1 0 [nm]:=by
 refine ⟨rfl,by simp,fun i hi=>?_⟩
 obtain rfl:i=0:=by simpa using hi
 have h:=World.alloc_heap_new w (.cells #[.string nm] 9)
 refine ⟨w.heap.size,0,[.string nm],rfl,by simp,rfl,C9 ?_,by simp[Value.oneCell'],rfl,a⟩
 simp only[World.cell?,h]
 rfl
theorem GR{f:FuncId}{args:Array Value}{w:World}{b:Bool}(h:Calls Try.prog f args w (De w b))(hb:b=true):Calls Try.prog f args w fun e w'=>e=.returned (.tuple #[])∧Below w.heap.size w w':=
 h.mono fun e w' a=>by rw[hb] at a;exact ⟨a.2,a.1⟩
theorem Jd{f:FuncId}{args:Array Value}{w:World}{b:Bool}(h:Calls Try.prog f args w (De w b))(hb:b=false):Calls Try.prog f args w fun e w'=>e=.panicked (Ek 170)∧Below w.heap.size w w':=
 h.mono fun e w' a=>by rw[hb] at a;exact ⟨a.2,a.1⟩
theorem Rx{f:FuncId}{args:Array Value}{w:World}{b c:Bool}(h:Calls Try.prog f args w (Ma w b))(hb:b=c):Calls Try.prog f args w (Ma w c):=hb▸h
theorem TZ{Q:QT}{w V:World}{x:An}{L:Bh}{cs:LV}{N:NP}(hQ:Kk Q w x)(W:Gq w x L cs N V)(hg:GV V)(hd:∀e∈AL x,AR e.1<=1000000)
 (u0 u4 u5 u6 u7 u8 u9 fj ea fu dp fk de d4 eq ek fd ef e5 ei et df fb dm di fc d7 ed fl ev f7 fs e9 dy dk em f9 dl dg ep dx dq eb dt fa dr dn d9 eu ec en e7 ft f6 fh dw fq du da db d8 f3 ey fg el f0 dc ez f8 ff dv dh e3 eo f4 eg dz er fe e6 fi eh f2 fo ej fp dj dd e8 e4 f5 ew fm f1 d6 d3 ee cq az c5 bi ck c6 cj bm cd cb bj ag ca ai bq aq bp bg c4 b5 ap b4 ae aw b3 c9 am au ct bz d1 cp bs cr ba ax b7 ay cu cv aj b8 cw cx av cz ce bw be cf bk bv c7 c8 d0 an cc cl ci bn ar d2 ch cy cn bo ad co b9 c3 al bd bh bt:Value):
  Gf 11 Try.prog (CP 2 (Try.f11.body.getD .skip)) Q {tmps:=#[u0,.pointer (some ⟨w.heap.size,0,none⟩),.pointer (some ⟨w.heap.size+1,0,none⟩),.pointer (some ⟨w.heap.size+2,0,none⟩),u4,u5,u6,u7,u8,u9,fj,ea,fu,dp,fk,de,d4,eq,ek,fd,ef,e5,ei,et,df,fb,dm,di,fc,d7,ed,fl,ev,f7,fs,e9,dy,dk,em,f9,dl,dg,ep,dx,dq,eb,dt,fa,dr,dn,d9,eu,ec,en,e7,ft,f6,fh,dw,fq,du,da,db,d8,f3,ey,fg,el,f0,dc,ez,f8,ff,dv,dh,e3,eo,f4,eg,dz,er,fe,e6,fi,eh,f2,fo,ej,fp,dj,dd,e8,e4,f5,ew,fm,f1,d6,d3,ee,cq,az,c5,bi,ck,c6,cj,bm,cd,cb,bj,ag,ca,ai,bq,aq,bp,bg,c4,b5,ap,b4,ae,aw,b3,c9,am,au,ct,bz,d1,cp,bs,cr,ba,ax,b7,ay,cu,cv,aj,b8,cw,cx,av,cz,ce,bw,be,cf,bk,bv,c7,c8,d0,an,cc,cl,ci,bn,ar,d2,ch,cy,cn,bo,ad,co,b9,c3,al,bd,bh,bt],defers:=[IP w.heap.size]} V:=by
 have F:=yb (W.at.nms fun _ h=>h)
 have f:=yb W.cells
 have X:Hid (w.heap.size < V.heap.size):=yb (by have:=W.size;omega)
 have HQ:=yb hQ;have HP:=yb W;have E:=yb hg
 have HS:Hid (B8 (fun b=>b < V.heap.size) V {L with s:=w.heap.size} cs x):=yb (by have h:=W.at;exact ⟨h.name,h.cells,h.lets,h.crops,h.reaches,h.farms,h.rots,h.rights,h.duties⟩)
 have a1:=yb W.range
 have HD:=yb hd
 have ab:Hid (x.name.size<=maxLen):=yb W.src.name
 have G:Hid (∀(c:Int) tm wr,KT w.heap.size tm->Below V.heap.size V wr->Au x=c->c≠0->Q (.panic (Ek c)) {tmps:=tm,defers:=[IP w.heap.size]} wr):=yb (fun c tm wr hv hb hc hn=>by
  subst hc
  exact hQ.fail tm wr hv (W.up (hb.mono W.size)).amid hn)
 clear hQ W hg hd
 unfold IP
 cases hf:Bq x with
 |false=>
  have HF:=yb hf
  clear hf
  refine Ad (A6 ?_)
  go_wp2_with (first|(go_at_call 25;refine (Rx (J9 HS.o a1.o (fun _ h=>h) X.o HD.o) HF.o).mono ?_;rintro e w2 ⟨S,rfl⟩;have U:=yb S;clear S))
  exact G.o 2 _ _ ⟨rfl,rfl⟩ U.o (by unfold Au;rw[HF.o];rfl) (by decide)
 |true=>
  have HF:=yb hf
  clear hf
  have d:Hid (∀tm wr,KT w.heap.size tm->Below V.heap.size V wr->Cu x=false->Q (.panic (Ek 170)) {tmps:=tm,defers:=[IP w.heap.size]} wr):=yb (fun tm wr hv hb hn=>G.o 170 tm wr hv hb (by unfold Au;rw[HF.o,hn];rfl) (by decide))
  refine Ad (A6 ?_)
  go_wp2_with (first|(go_at_call 25;refine (Rx (J9 HS.o a1.o (fun _ h=>h) X.o HD.o) HF.o).mono ?_;rintro e w2 ⟨S,rfl⟩;have U:=yb S;clear S))
  have hc:w2.cell? (aV w.heap.size 0)=some (.string x.name):=(U.o.cell (p:=(aV w.heap.size 0)) X.o).trans f.o.name
  have cm:Hid (AZ (w2.alloc (.cells #[.string x.name] 9)) ⟨some (aV w2.heap.size 0),1,1⟩ 1 0 [x.name]):=yb (Tl ab.o)
  have P:Hid (Below V.heap.size V (w2.alloc (.cells #[.string x.name] 9))):=yb (U.o.alloc U.o.size _)
  have ah:Hid (GV (w2.alloc (.cells #[.string x.name] 9))):=yb (E.o.below P.o E.o.1)
  cases Y:AA x.name with
  |false=>
   have t:=yb Y
   clear Y
   refine Ad (A6 ?_)
   go_wp2_with (first|(go_at_call 26;refine (Jd (La (h:=⟨some (aV w2.heap.size 0),1,1⟩) cm.o ah.o) (by simp[t.o])).mono ?_;rintro e w3 ⟨rfl,T⟩;have k:=yb (P.o.trans (T.mono P.o.size));clear T))
   exact d.o _ _ ⟨rfl,rfl⟩ k.o (by unfold Cu;rw[t.o];simp)
  |true=>
   have t:=yb Y
   clear Y
   refine Ad (A6 ?_)
   go_wp2_with (first|(go_at_call 26;refine (GR (La (h:=⟨some (aV w2.heap.size 0),1,1⟩) cm.o ah.o) (by simp[t.o])).mono ?_;rintro e w3 ⟨rfl,T⟩;have k:=yb (P.o.trans (T.mono P.o.size));clear T))
   clear hc
   have hc:w3.cell? (aV w.heap.size 19)=some (.slice L.lets.a L.lets.n L.lets.c):=(k.o.cell (p:=(aV w.heap.size 19)) X.o).trans f.o.lets
   have a2:=yb (F.o.lets.up k.o)
   have bu:Hid (GV w3):=yb (E.o.below k.o E.o.1)
   cases g:(x.lets.map (·.name)).all AA with
   |false=>
    have y:=yb g
    clear g
    refine Ad (A6 ?_)
    go_wp2_with (first|(go_at_call 28;refine (Jd (L7 a2.o bu.o) y.o).mono ?_;rintro e w4 ⟨rfl,R⟩;have r:=yb (k.o.trans (R.mono k.o.size));clear R))
    exact d.o _ _ ⟨rfl,rfl⟩ r.o (by unfold Cu;rw[y.o];simp)
   |true=>
    have y:=yb g
    clear g
    refine Ad (A6 ?_)
    go_wp2_with (first|(go_at_call 28;refine (GR (L7 a2.o bu.o) y.o).mono ?_;rintro e w4 ⟨rfl,R⟩;have r:=yb (k.o.trans (R.mono k.o.size));clear R))
    clear hc
    have hc:w4.cell? (aV w.heap.size 20)=some (.slice L.crops.a L.crops.n L.crops.c):=(r.o.cell (p:=(aV w.heap.size 20)) X.o).trans f.o.crops
    have a8:=yb (F.o.crops.up r.o)
    have bb:Hid (GV w4):=yb (E.o.below r.o E.o.1)
    cases g:(x.crops.map (·.name)).all AA with
    |false=>
     have B:=yb g
     clear g
     refine Ad (A6 ?_)
     go_wp2_with (first|(go_at_call 30;refine (Jd (JO a8.o bb.o) B.o).mono ?_;rintro e w5 ⟨rfl,I⟩;have m:=yb (r.o.trans (I.mono r.o.size));clear I))
     exact d.o _ _ ⟨rfl,rfl⟩ m.o (by unfold Cu;rw[B.o];simp)
    |true=>
     have B:=yb g
     clear g
     refine Ad (A6 ?_)
     go_wp2_with (first|(go_at_call 30;refine (GR (JO a8.o bb.o) B.o).mono ?_;rintro e w5 ⟨rfl,I⟩;have m:=yb (r.o.trans (I.mono r.o.size));clear I))
     clear hc
     have hc:w5.cell? (aV w.heap.size 21)=some (.slice L.reaches.a L.reaches.n L.reaches.c):=(m.o.cell (p:=(aV w.heap.size 21)) X.o).trans f.o.reaches
     have aa:=yb (F.o.reaches.up m.o)
     have ao:Hid (GV w5):=yb (E.o.below m.o E.o.1)
     cases g:(x.reaches.map (·.name)).all AA with
     |false=>
      have D:=yb g
      clear g
      refine Ad (A6 ?_)
      go_wp2_with (first|(go_at_call 32;refine (Jd (J5 aa.o ao.o) D.o).mono ?_;rintro e w6 ⟨rfl,H⟩;have j:=yb (m.o.trans (H.mono m.o.size));clear H))
      exact d.o _ _ ⟨rfl,rfl⟩ j.o (by unfold Cu;rw[D.o];simp)
     |true=>
      have D:=yb g
      clear g
      refine Ad (A6 ?_)
      go_wp2_with (first|(go_at_call 32;refine (GR (J5 aa.o ao.o) D.o).mono ?_;rintro e w6 ⟨rfl,H⟩;have j:=yb (m.o.trans (H.mono m.o.size));clear H))
      clear hc
      have hc:w6.cell? (aV w.heap.size 22)=some (.slice L.farms.a L.farms.n L.farms.c):=(j.o.cell (p:=(aV w.heap.size 22)) X.o).trans f.o.farms
      have a6:=yb (F.o.farms.up j.o)
      have cg:Hid (GV w6):=yb (E.o.below j.o E.o.1)
      cases g:(x.farms.map (·.name)).all AA with
      |false=>
       have v:=yb g
       clear g
       refine Ad (A6 ?_)
       go_wp2_with (first|(go_at_call 34;refine (Jd (JP a6.o cg.o) v.o).mono ?_;rintro e w7 ⟨rfl,O⟩;have i:=yb (j.o.trans (O.mono j.o.size));clear O))
       exact d.o _ _ ⟨rfl,rfl⟩ i.o (by unfold Cu;rw[v.o];simp)
      |true=>
       have v:=yb g
       clear g
       refine Ad (A6 ?_)
       go_wp2_with (first|(go_at_call 34;refine (GR (JP a6.o cg.o) v.o).mono ?_;rintro e w7 ⟨rfl,O⟩;have i:=yb (j.o.trans (O.mono j.o.size));clear O))
       clear hc
       have hc:w7.cell? (aV w.heap.size 23)=some (.slice L.rots.a L.rots.n L.rots.c):=(i.o.cell (p:=(aV w.heap.size 23)) X.o).trans f.o.rots
       have a7:=yb (F.o.rots.up i.o)
       have af:Hid (GV w7):=yb (E.o.below i.o E.o.1)
       cases g:(x.rots.map (·.name)).all AA with
       |false=>
        have z:=yb g
        clear g
        refine Ad (A6 ?_)
        go_wp2_with (first|(go_at_call 36;refine (Jd (L8 a7.o af.o) z.o).mono ?_;rintro e w8 ⟨rfl,J⟩;have q:=yb (i.o.trans (J.mono i.o.size));clear J))
        exact d.o _ _ ⟨rfl,rfl⟩ q.o (by unfold Cu;rw[z.o];simp)
       |true=>
        have z:=yb g
        clear g
        refine Ad (A6 ?_)
        go_wp2_with (first|(go_at_call 36;refine (GR (L8 a7.o af.o) z.o).mono ?_;rintro e w8 ⟨rfl,J⟩;have q:=yb (i.o.trans (J.mono i.o.size));clear J))
        clear hc
        have hc:w8.cell? (aV w.heap.size 24)=some (.slice L.rights.a L.rights.n L.rights.c):=(q.o.cell (p:=(aV w.heap.size 24)) X.o).trans f.o.rights
        have a0:=yb (F.o.rights.up q.o)
        have ac:Hid (GV w8):=yb (E.o.below q.o E.o.1)
        cases g:(x.rights.map (·.name)).all AA with
        |false=>
         have A:=yb g
         clear g
         refine Ad (A6 ?_)
         go_wp2_with (first|(go_at_call 38;refine (Jd (J6 a0.o ac.o) A.o).mono ?_;rintro e w9 ⟨rfl,K⟩;have l:=yb (q.o.trans (K.mono q.o.size));clear K))
         exact d.o _ _ ⟨rfl,rfl⟩ l.o (by unfold Cu;rw[A.o];simp)
        |true=>
         have A:=yb g
         clear g
         refine Ad (A6 ?_)
         go_wp2_with (first|(go_at_call 38;refine (GR (J6 a0.o ac.o) A.o).mono ?_;rintro e w9 ⟨rfl,K⟩;have l:=yb (q.o.trans (K.mono q.o.size));clear K))
         clear hc
         have hc:w9.cell? (aV w.heap.size 25)=some (.slice L.duties.a L.duties.n L.duties.c):=(l.o.cell (p:=(aV w.heap.size 25)) X.o).trans f.o.duties
         have Z:=yb (F.o.duties.up l.o)
         have ak:Hid (GV w9):=yb (E.o.below l.o E.o.1)
         cases g:(x.duties.map (·.name)).all AA with
         |false=>
          have u:=yb g
          clear g
          refine Ad (A6 ?_)
          go_wp2_with (first|(go_at_call 40;refine (Jd (JQ Z.o ak.o) u.o).mono ?_;rintro e d5 ⟨rfl,C⟩;have M:=yb (l.o.trans (C.mono l.o.size));clear C))
          exact d.o _ _ ⟨rfl,rfl⟩ M.o (by unfold Cu;rw[u.o];simp)
         |true=>
          have u:=yb g
          clear g
          refine Ad (A6 ?_)
          go_wp2_with (first|(go_at_call 40;refine (GR (JQ Z.o ak.o) u.o).mono ?_;rintro e d5 ⟨rfl,C⟩;have M:=yb (l.o.trans (C.mono l.o.size));clear C))
          clear hc
          have hn:Cu x=true:=by
           unfold Cu
           rw[t.o,y.o,B.o,D.o,v.o,z.o,A.o,u.o]
           rfl
          exact TY HQ.o (HP.o.up (M.o.mono HP.o.size)) HF.o (by unfold Au;rw[HF.o,hn];rfl) _ _ _ _ _ _ _ _ _ _ _ _ _ _ _ _ _ _ _ _ _ _ _ _ _ _ _ _ _ _ _ _ _ _ _ _ _ _ _ _ _ _ _ _ _ _ _ _ _ _ _ _ _ _ _ _ _ _ _ _ _ _ _ _ _ _ _ _ _ _ _ _ _ _ _ _ _ _ _ _ _ _ _ _ _ _ _ _ _ _ _ _ _ _ _ _ _ _ _ _ _ _ _ _ _ _ _ _ _ _ _ _ _ _ _ _ _ _ _ _ _ _ _ _ _ _ _ _ _ _ _ _ _ _ _ _ _ _ _ _ _ _ _ _ _ _ _ _ _ _ _ _ _ _ _ _ _ _ _ _ _ _ _ _ _ _ _ _ _ _ _
def Uq(w:World)(cs:LV):World:=((w.alloc (.cells cs.toArray 35)).alloc (.cells Bo.toArray 35)).alloc (.cells #[.int .i64 0] 38)
theorem Sx{w:World}{x:An}{L:Bh}{cs:LV}{N:NP}(h:B8 N w L cs x)(hN:∀b,N b->b < w.heap.size)(a:I1 x):Gq w x L cs N (Uq w cs):=by
 unfold Uq
 refine ⟨⟨(((yg _ _).alloc (ye _) _).alloc (by simp) _).alloc (by simp;omega) _,⟨Bo.toArray,rfl,?_⟩,⟨iV 0,?_⟩⟩,?_,h,hN,a⟩
 ·rw[yQ _ _ _ (by simp)]
  have:=World.alloc_heap_new (w.alloc (.cells cs.toArray 35)) (.cells Bo.toArray 35)
  rwa [zv] at this
 ·have:=World.alloc_heap_new ((w.alloc (.cells cs.toArray 35)).alloc (.cells Bo.toArray 35)) (.cells #[iV 0] 38)
  rwa [zv,zv] at this
 ·rw[yQ _ _ _ (by simp;omega),yQ _ _ _ (by simp)]
  exact World.alloc_heap_new _ _
theorem DG{w:World}{x:An}{L:Bh}{cs:LV}{N:NP}(h:B8 N w L cs x)(hN:∀b,N b->b < w.heap.size)(a:I1 x)(d:GV w)(hd:∀e∈AL x,AR e.1<=1000000):
  Calls Try.prog 11 #[.agg cs.toArray] w (ER w x):=by
 have m:∀(fn:Fn) (first cap:Array Value) (w:World),(Instr.makeFunc fn first cap).run Try.prog w=.ok (.func fn first cap) w:=fun _ _ _ _=>rfl
 have c:=yb (Sx h hN a)
 have i:Hid (GV (Uq w cs)):=yb (d.below c.o.amid.below d.1)
 have l:=yb hd
 obtain ⟨c0,c1,c2,rfl,g,g1,j⟩:=h.cells
 obtain ⟨q,r,rfl,e0⟩:=g.cells
 obtain ⟨p,p1,rfl,e1⟩:=g1.cells
 obtain ⟨s,p2,rfl,e2⟩:=j.cells
 clear h hN a d hd g g1 j e0 e1 e2
 unfold Av.v at*
 simp only[z7,zj] at c i ⊢
 refine Cd (n:=10) Try.func11 rfl ?_
 have f:=Ro w x
 generalize bodyPostM Fence.wide 10 Try.prog Try.f11 (ER w x)=Q at f ⊢
 have k:=yb f
 clear f
 simp only[Try.ntmps11,yB,yE,yI,Nat.reduceAdd,Nat.reduceSub,zJ,zK,zW,zQ,zj,z7]
 iterate 2
  refine Ad (A6 ?_)
  go_wp2
 exact TZ k.o c.o i.o l.o _ _ _ _ _ _ _ _ _ _ _ _ _ _ _ _ _ _ _ _ _ _ _ _ _ _ _ _ _ _ _ _ _ _ _ _ _ _ _ _ _ _ _ _ _ _ _ _ _ _ _ _ _ _ _ _ _ _ _ _ _ _ _ _ _ _ _ _ _ _ _ _ _ _ _ _ _ _ _ _ _ _ _ _ _ _ _ _ _ _ _ _ _ _ _ _ _ _ _ _ _ _ _ _ _ _ _ _ _ _ _ _ _ _ _ _ _ _ _ _ _ _ _ _ _ _ _ _ _ _ _ _ _ _ _ _ _ _ _ _ _ _ _ _ _ _ _ _ _ _ _ _ _ _ _ _ _ _ _ _ _ _ _ _ _ _ _ _ _ _ _
instance:DecidableEq Rf:=fun a b=>decidable_of_iff (a.name=b.name∧a.n=b.n) (by cases a;cases b;simp)
def Mn(u:Us):Rf:=⟨u.name,u.n⟩
mutual
def Ly:Ex->List Rf
 |.mk _ _ _ rn ri args=>⟨rn,ri⟩::GS args
def GS:List Ex->List Rf
 |[]=> []
 |e::r=>Ly e++GS r
end
def Hj(e:KK):List Rf:=if D8 e.1 then [] else Ly e.1
def GU(d:BL):List Rf:=[d.on,d.crop]
def Io(d:B7):List Rf:=d.on::d.turns.flatMap fun k=> [k.farm]
def G9(d:AG):List Rf:=[d.farm,d.reach]
def GW(d:Ce):List Rf:=[d.farm,d.reach]
def AX(x:An):List Rf:=(AL x).flatMap Hj++(((x.farms.flatMap GU++x.rots.flatMap Io)++x.rights.flatMap G9)++x.duties.flatMap GW)
def Da(x:An):List Rf:=AX x++x.reaches.map (·.frm)
def Dg(x:An):Int:=if Au x=0 then (if Da x=Da (A8 x) then 0 else 170) else Au x
def T9(N:NP)(s b:Nat):Prop:=b=s∨N b
structure Kt (N:Nat->Prop) (s:Nat) (w:World) (u:Us):Prop where
 inS:T9 N s u.b
 name:w.cell? ⟨u.b,u.o,none⟩=some (.string u.name)
 n:w.cell? ⟨u.b,u.o+1,none⟩=some (.int .i64 u.n)
def CB(K:NP)(p:Addr):Prop:=∃b q,p=⟨b,q,none⟩∧K b
def DB(K:NP)(w:World)(p:Addr):Prop:=∃b q,p=⟨b,q,none⟩∧K b∧∃z,w.cell? ⟨b,q,none⟩=some (.int .i64 z)
theorem Nz{K:NP}{w V:World}(h:∀b,K b->V.heap[b]?=w.heap[b]?):Ug w (CB K) (DB K w) V:=by
 constructor
 ·rintro p ⟨b,q,rfl,a⟩;exact Ac (h b a)
 ·rintro p ⟨b,q,rfl,a,z,c⟩;exact ⟨z,(Ac (h b a)).trans c⟩
section
variable{N K:NP}{w:World}{s:Nat}
mutual
theorem Lz(lt:Int):∀(e:Ex) (b o:Nat) (cs:LV),T9 N s b->AP N w e cs->w.rangeAt b o cs->(∀u∈(Cg w lt e b o).1,Kt N s w u)∧((Cg w lt e b o).2=true->(Cg w lt e b o).1.map Mn=Ly e)
 |.mk op n u rn ri args,b,o,cs,hb,hv,hr=>by
  rw[AP] at hv
  obtain ⟨a,cap,rfl,h2,h3,h4⟩:=hv
  obtain ⟨k,r1,r2,f,g,j⟩:=Br hr
  obtain ⟨i,h⟩:=LA lt args a args.length cap 0 h4
  rw[Cg]
  by_cases hs:MJ op args.length=true
  ·rw[yx hs,j]
   refine ⟨fun v c=>?_,fun d=>?_⟩
   ·rcases yJ.1 c with rfl|c
    ·exact ⟨hb,f,g⟩
    ·exact i v c
   ·rw[Ly,zT,h d];rfl
  ·rw[yu hs]
   exact ⟨fun v c=>(by cases c),fun d=>(by cases d)⟩
theorem LA(lt:Int):∀(l:List Ex) (a:Option Addr) (n cap i:Nat),Db N w a i l->(∀u∈(Bw w lt l (some (.slice a n cap)) i).1,Kt N s w u)∧((Bw w lt l (some (.slice a n cap)) i).2=true->(Bw w lt l (some (.slice a n cap)) i).1.map Mn=GS l)
 |[],a,n,cap,i,h=>by rw[Bw];exact ⟨fun v c=>(by cases c),fun _=>rfl⟩
 |e::r,a,n,cap,i,h=>by
  rw[Db] at h
  obtain ⟨⟨b,o,cs,rfl,h1,h2,h3⟩,h5⟩:=h
  obtain ⟨e1,e2⟩:=Lz lt e b (o+i*6) cs (.inr h1) h3 h2
  obtain ⟨g,j⟩:=LA lt r (some ⟨b,o,none⟩) n cap (i+1) h5
  rw[Bw]
  by_cases d:(Cg w lt e b (o+i*6)).2=true
  ·simp only[d,zY]
   refine ⟨fun v c=>(yo.1 c).elim (e1 v) (g v),fun f=>?_⟩
   rw[zb,e2 d,j f,GS]
  ·simp only[d]
   refine ⟨fun v c=>e1 v (by simpa using c),fun f=>absurd f (by simp)⟩
end
mutual
theorem Ry(hN:∀b,N b->K b):∀(e:Ex) (b o:Nat) (cs:LV),K b->AP N w e cs->w.rangeAt b o cs->PV w (CB K) e b o
 |.mk op n u rn ri args,b,o,cs,hb,hv,hr=>by
  rw[AP] at hv
  obtain ⟨a,cap,rfl,h2,h3,h4⟩:=hv
  obtain ⟨c,r1,r2,f,g,d⟩:=Br hr
  rw[PV]
  exact ⟨a,cap,⟨c,_,_,rfl,hb⟩,⟨d,_,_,rfl,hb⟩,h2,Pz hN args a 0 h4⟩
theorem Pz(hN:∀b,N b->K b):∀(l:List Ex) (a:Option Addr) (i:Nat),Db N w a i l->Jh w (CB K) a i l
 |[],a,i,h=>by rw[Jh];trivial
 |e::r,a,i,h=>by
  rw[Db] at h
  rw[Jh]
  obtain ⟨⟨b,o,cs,rfl,h1,h2,h3⟩,h5⟩:=h
  exact ⟨⟨b,o,rfl,Ry hN e b (o+i*6) cs (hN b h1) h3 h2⟩,Pz hN r _ (i+1) h5⟩
end
end
theorem LC:∀ {l:List (List Us × Bool)},(BI l).2=true->(BI l).1=l.flatMap (·.1)∧∀p∈l,p.2=true
 |[],_=>by simp[BI]
 |y::r,h=>by
  have e:BI (y::r)=if y.2 then (y.1++(BI r).1,(BI r).2) else (y.1,false):=rfl
  rw[e] at h ⊢
  by_cases h1:y.2=true
  ·rw[yx h1] at h ⊢
   obtain ⟨c,b⟩:=LC h
   exact ⟨by rw[zp,<-c],fun p a=>(yJ.1 a).elim (fun e=>e▸h1) (b p)⟩
  ·rw[yu h1] at h;cases h
theorem Fb{α:Type}{l:List α}{n:Nat}(b:n=l.length){F:Nat->List Us}{f:α->List Rf}(h:∀i (hi:i < l.length),(F i).map Mn=f l[i]):((List.range n).flatMap F).map Mn=l.flatMap f:=by
 have a:∀k,k<=l.length->((List.range k).flatMap F).map Mn=(l.take k).flatMap f:=by
  intro k
  induction k with
  |zero=>simp
  |succ k ih=>
   intro c
   rw[Am,zb,ih (by omega),h k (by omega),yq (by omega),zB]
   simp
 rw[b,a _ (ye _),yw]
section
variable{N:NP}{w:World}{L:Bh}{cs:LV}{x:An}
theorem NA{s:Nat}:∀ {l:List (Array Value)} {m:List KK},At (Uk N s w) l m->(∀p∈List.zipWith (Ct w) l m,∀u∈p.1,Kt N s w u)∧((∀p∈List.zipWith (Ct w) l m,p.2=true)->((List.zipWith (Ct w) l m).flatMap (·.1)).map Mn=m.flatMap Hj)
 |[],[],_=>⟨fun p d=>(by cases d),fun _=>rfl⟩
 |a::l,e::m,hA=>by
  rw[At] at hA
  obtain ⟨⟨b,o,c,rfl,hb,i,j⟩,h2⟩:=hA
  obtain ⟨n,k⟩:=NA h2
  obtain ⟨e1,e2⟩:=Lz e.2 e.1 b o c hb j i
  have f:(∀u∈(Ct w #[.pointer (some ⟨b,o,none⟩),.int .i64 e.2] e).1,Kt N s w u)∧((Ct w #[.pointer (some ⟨b,o,none⟩),.int .i64 e.2] e).2=true->(Ct w #[.pointer (some ⟨b,o,none⟩),.int .i64 e.2] e).1.map Mn=Hj e):=by
   unfold Ct Hj
   by_cases hl:D8 e.1=true
   ·simp[hl]
   ·rw[yu hl,yu hl];exact ⟨e1,e2⟩
  rw[xO]
  refine ⟨fun p d=>(yJ.1 d).elim (fun h=>h▸f.1) (n p),fun g=>?_⟩
  rw[zp,zb,f.2 (g _ (by simp)),k (fun p d=>g p (by simp[d])),zp]
 |[],_::_,hA=>by simp[At] at hA
 |_::_,[],hA=>by simp[At] at hA
theorem Ew{h:Av}{b o sz i off:Nat}{cs0 p q:LV}{r:Rf}{s:Nat}(to at_:Int)(c:h.a=some ⟨b,o,none⟩)(hN:N b)(d:w.rangeAt b (o+i*sz) cs0)(hc:cs0=p++(Ah r++q))(e:p.length=off):Kt N s w (D3 (h.at sz i off) to at_ r):=by
 subst hc
 have h1:=AK d
 rw[e] at h1
 unfold D3
 rw[AU c]
 exact ⟨.inr hN,h1 0 _ rfl,h1 1 _ rfl⟩
theorem OO(h:B8 N w L cs x):(∀u∈Cl L x,Kt N L.s w u)∧(Cl L x).map Mn=((x.farms.flatMap GU++x.rots.flatMap Io)++x.rights.flatMap G9)++x.duties.flatMap GW:=by
 constructor
 ·intro u a
  unfold Cl at a
  simp only[yo] at a
  rcases a with ((a|a)|a)|a
  ·obtain ⟨i,hi,a⟩:=yN.1 a
   have hl:i < x.farms.length:=by rw[<-h.farms.1];exact yZ.1 hi
   obtain ⟨b,o,c,g1,g,l,e,_,_,_,c1,rfl,r⟩:=h.farms.2.2 i hl
   unfold E4 at a
   rw[yk hl] at a
   simp only[yJ,zl,xp] at a
   generalize x.farms[i]=d at*
   rcases a with rfl|rfl
   ·exact Ew (p:=[.string d.name]) _ _ g1 g e rfl rfl
   ·exact Ew (p:=.string d.name::(Ah d.on++(.bool d.river::c1))) (q:=[]) _ _ g1 g e (by simp) (by simp[A7,r.len])
  ·obtain ⟨i,hi,a⟩:=yN.1 a
   have hl:i < x.rots.length:=by rw[<-h.rots.1];exact yZ.1 hi
   obtain ⟨b,o,c,g1,g,l,e,_,_,c0,c1,c2,rfl,z,t,v,m⟩:=h.rots.2.2 i hl
   unfold Gl at a
   rw[yk hl] at a
   generalize x.rots[i]=d at*
   rcases yJ.1 a with rfl|a
   ·exact Ew (p:=[.string d.name]) _ _ g1 g e rfl rfl
   ·obtain ⟨k,n,a⟩:=yN.1 a
    have j:k < d.turns.length:=by rw[<-m.1];exact yZ.1 n
    obtain ⟨b,o,c,g1,g,l,e,_,c1,rfl,r⟩:=m.2.2 k j
    unfold EM at a
    rw[yk j] at a
    simp only[yJ,zl,xp] at a
    rw[a]
    exact Ew (p:=[]) _ _ g1 g e rfl rfl
  ·obtain ⟨i,hi,a⟩:=yN.1 a
   have hl:i < x.rights.length:=by rw[<-h.rights.1];exact yZ.1 hi
   obtain ⟨b,o,c,g1,g,l,e,_,_,_,c0,c1,c2,y,A,rfl,_⟩:=h.rights.2.2 i hl
   unfold CY at a
   rw[yk hl] at a
   simp only[yJ,zl,xp] at a
   generalize x.rights[i]=d at*
   rcases a with rfl|rfl
   ·exact Ew (p:=[iV d.kind,.string d.name]) _ _ g1 g e rfl rfl
   ·exact Ew (p:=iV d.kind::.string d.name::Ah d.farm) _ _ g1 g e rfl rfl
  ·obtain ⟨i,hi,a⟩:=yN.1 a
   have hl:i < x.duties.length:=by rw[<-h.duties.1];exact yZ.1 hi
   obtain ⟨b,o,c,g1,g,l,e,_,_,_,c0,rfl,_⟩:=h.duties.2.2 i hl
   unfold DM at a
   rw[yk hl] at a
   simp only[yJ,zl,xp] at a
   generalize x.duties[i]=d at*
   rcases a with rfl|rfl
   ·exact Ew (p:=[.string d.name]) _ _ g1 g e rfl rfl
   ·exact Ew (p:=.string d.name::Ah d.farm) _ _ g1 g e rfl rfl
 ·unfold Cl
  rw[zb,zb,zb,Fb h.farms.1 (f:=GU) fun i hi=>?_,Fb h.rots.1 (f:=Io) fun i hi=>?_,Fb h.rights.1 (f:=G9) fun i hi=>?_,Fb h.duties.1 (f:=GW) fun i hi=>?_]
  ·unfold DM;rw[yk hi];rfl
  ·unfold CY;rw[yk hi];rfl
  ·obtain ⟨_,_,_,_,_,_,_,_,_,_,_,_,_,_,_,_,m⟩:=h.rots.2.2 i hi
   unfold Gl;rw[yk hi]
   simp only[zT]
   rw[Fb m.1 (f:=fun k:Bt=> [k.farm]) fun k n=>?_]
   ·rfl
   ·unfold EM;rw[yk n];rfl
  ·unfold E4;rw[yk hi];rfl
theorem LD(h:B8 N w L cs x)(g:w.rangeAt L.s 0 cs):(∀u∈(Ca w L x).1,Kt N L.s w u)∧((Ca w L x).2=true->(Ca w L x).1.map Mn=AX x):=by
 obtain ⟨d,l⟩:=NA (HY h g)
 obtain ⟨k,i⟩:=OO h
 constructor
 ·intro u b
  obtain ⟨p,a,b⟩:=Ik b
  unfold E8 at a
  rcases yo.1 a with a|a
  ·exact d p a u b
  ·simp only[zt] at a
   rw[a] at b
   simp only at b
   split at b
   ·exact k u b
   ·cases b
 ·intro e
  obtain ⟨j,c⟩:=LC e
  unfold Ca
  rw[j]
  unfold E8
  have f:Ci x=true:=by
   have:=c (if Ci x then Cl L x else [],Ci x) (by unfold E8;simp)
   exact this
  rw[zB,zb]
  unfold Ds
  rw[l (fun p a=>c p (by unfold E8 Ds;simp[a]))]
  simp only[zp,zL,zn,f,zY]
  rw[i];rfl
theorem Mo(h:B8 N w L cs x)(d:Bq x=true):(Cl L x).length<=1000000:=by
 obtain ⟨e,p,l,j,f,m,g,b,_⟩:=Ev d
 unfold Cl
 simp only[ym]
 have e1:((List.range L.farms.n).flatMap (E4 L.farms x.farms)).length<=L.farms.n*2:=Fs _ fun i=>by unfold E4;split<;>simp
 have e2:((List.range L.rots.n).flatMap (Gl L x.rots)).length<=L.rots.n*66:=Nq _ fun i hi=>by
  have hl:i < x.rots.length:=by rw[<-h.rots.1];exact hi
  obtain ⟨_,_,_,_,_,_,_,_,_,_,_,_,_,_,_,_,c⟩:=h.rots.2.2 i hl
  have a:((List.range (A4 L i).n).flatMap (EM (A4 L i) (x.rots[i]).turns)).length<=(A4 L i).n*1:=Fs _ fun k=>by unfold EM;split<;>simp
  have:=b _ (yy hl)
  have:=c.1
  unfold Gl
  rw[yk hl]
  simp only[yE]
  omega
 have a:((List.range L.rights.n).flatMap (CY L.rights x.rights)).length<=L.rights.n*2:=Fs _ fun i=>by unfold CY;split<;>simp
 have o:((List.range L.duties.n).flatMap (DM L.duties x.duties)).length<=L.duties.n*2:=Fs _ fun i=>by unfold DM;split<;>simp
 have:=h.farms.1;have:=h.rots.1;have:=h.rights.1;have:=h.duties.1
 omega
theorem NB(h:B8 N w L cs x)(m:w.rangeAt L.s 0 cs){Bu:Nat}(f:w.cell? ⟨Bu,0,none⟩=some (.pointer (some ⟨L.s,0,none⟩)))(n:Bq x=true):JW N w (CB fun b=>T9 N L.s b∨b=Bu) (DB (fun b=>T9 N L.s b∨b=Bu) w) Bu L x:=by
 refine ⟨h.ok,JR h m f,⟨Bu,0,rfl,.inr rfl⟩,fun j _ _=>⟨L.s,j,rfl,.inl (.inl rfl)⟩,fun i hi=>?_,fun i hi=>?_,fun i hi=>?_,?_,h.farms.1,h.rots.1,fun i hi=>?_,h.rights.1,h.duties.1,Nr (Ev n).1,Mo h n⟩
 ·obtain ⟨b,o,c,g1,g,_⟩:=h.rots.2.2 i (by rw[<-h.rots.1];exact hi)
  rw[AU g1]
  exact ⟨_,_,rfl,.inl (.inr g)⟩
 ·obtain ⟨b,o,c,g1,g,p,l,_,_,_,c1,rfl,z⟩:=h.farms.2.2 i hi
  rw[AU g1]
  exact ⟨⟨_,_,rfl,.inl (.inr g)⟩,l 3 _ rfl⟩
 ·obtain ⟨b,o,c,g1,g,p,l,_,_,_,c0,c1,c2,A,C,rfl,_⟩:=h.rights.2.2 i hi
  rw[AU g1]
  exact ⟨⟨_,_,rfl,.inl (.inr g)⟩,l 0 _ rfl⟩
 ·refine At.mono (fun a e u=>?_) (HY h m)
  obtain ⟨b,o,c,rfl,hb,d,k⟩:=u
  have q:=Ry (K:=fun b=>T9 N L.s b∨b=Bu) (fun b hb=>.inl (.inr hb)) e.1 b o c (.inl hb) k d
  obtain ⟨a,cap,rfl,e1,e2,y⟩:=k.cells
  obtain ⟨D,r1,r2,v,r,B⟩:=Br d
  exact ⟨b,o,_,rfl,d,k,q,⟨_,_,rfl,.inl hb⟩,⟨_,_,rfl,.inl hb⟩,⟨_,_,rfl,.inl hb⟩,⟨_,_,rfl,.inl hb,_,r⟩,fun _=>⟨_,_,rfl,.inl hb⟩⟩
 ·obtain ⟨_,_,_,_,_,_,_,_,_,_,_,_,_,_,_,_,t⟩:=h.rots.2.2 i hi
  exact t.1
end
def CE(B:Nat)(w:World)(v:Value)(l:List Rf):Prop:=w.ownsRow B 23 2 v l.length (l.flatMap Ah)
theorem Qi(B:Nat)(w:World):CE B w (.slice none 0 0) []:=⟨rfl,.inl ⟨rfl,rfl⟩⟩
theorem CE.up{B:Nat}{w w':World}{v:Value}{l:List Rf}(h:CE B w v l)(hb:∀g,v.ownBlock=some g->g < w.heap.size->w'.heap[g]?=w.heap[g]?):CE B w' v l:=by
 obtain ⟨h1,h2⟩:=h
 refine ⟨h1,h2.imp id ?_⟩
 rintro ⟨g,cap,a,rfl,h4,h5,h6⟩
 exact ⟨g,cap,a,rfl,h4,(hb g rfl (yf.1 h5).1).trans h5,h6⟩
theorem Mp{B:Nat}{W:World}{v:Value}{l:List Rf}(d:CE B W v l)(r:Rf)(ty:TypeId)(g c:Nat)(E:W.heap[g]?=some (.cells #[.string r.name,.int .i64 r.n] 23 (0,0)))(y:l.length+1<=1000000000){v':Value}{w':World}
 (a:(Builtin.append_ #[127,127] ty #[v,.slice (some ⟨g,0,none⟩) 1 c]).run Try.prog W=.ok v' w'):v'.ownBlock=v.ownBlock∨v'.ownBlock=some W.heap.size:=by
 have f:(Try.prog.info? 23).map (fun i=>(i.zero,i.size,i.bytes))=some (some (.agg #[.string ⟨#[]⟩,iV 0]),2,24):=by kernel_rfl
 obtain ⟨q,hi,o,m,p⟩:=info_parts f
 have b:∀j u,(Ah r)[j]?=some u->W.cell? (((aV g 0):Addr).add j)=some u:=fun j u x=>by
  rw[zy]
  simp only[World.cell?,E]
  unfold Ah at x
  simpa using x
 have hl:(Ah r).length=1*q.size:=by rw[m];rfl
 rcases d.2 with ⟨rfl,F⟩|⟨k,cap,s,rfl,z,A,D,C,w,t⟩
 ·rw[run_append_nil W 127 ty 23 q _ qk hi o (aV g 0) 1 c (Ah r) hl b (by omega) (by omega) (by rw[p];omega)] at a
  cases a
  exact .inr rfl
 ·by_cases h:l.length+1<=cap
  ·rw[run_append_room W 127 ty 23 q qk hi k l.length cap s A (aV g 0) 1 c (Ah r) hl b (CV r) h (by rw[m,w];show l.length*2+2<=cap*2;omega)] at a
   cases a
   exact .inl rfl
  ·have e:∀j u,(l.flatMap Ah)[j]?=some u->W.cell? (((aV k 0):Addr).add j)=some u:=World.ownsRow.cells d (g:=k) rfl
   rw[run_append_grow W 127 ty 23 q _ qk hi o (aV k 0) l.length cap (l.flatMap Ah) (by rw[m];exact d.1) e (aV g 0) 1 c (Ah r) hl b (by omega) (by omega) (growslice_fits (by omega) (by rw[p];omega))] at a
   cases a
   exact .inr rfl
theorem Ei{o:Oper}{a:Act}{K:Act->World->Prop}{Q:QT}{W:World}(B:Nat)(s x:Operand)(A:o.op=.call {callee:=.builtin .append,args:=#[s,x],argTypes:=#[127,127]})
 (v:Value)(l:List Rf)(hs:a.eval s=v)(b:CE B W v l)(r:Rf)(g c:Nat)(z:a.eval x=.slice (some ⟨g,0,none⟩) 1 c)(y:W.heap[g]?=some (.cells #[.string r.name,.int .i64 r.n] 23 (0,0)))(k:l.length+1<=1000000000)(f:B<=W.heap.size)
 (h:∀v' w',CE B w' v' (l++[r])->W.grownBy w' v.ownBlock->(v'.ownBlock=v.ownBlock∨v'.ownBlock=some W.heap.size)->K (a.put o.dst v') w'):Oper.wp Try.prog o a W K Q:=by
 have d:(Try.prog.info? 23).map (fun i=>(i.zero,i.size,i.bytes))=some (some (.agg #[.string ⟨#[]⟩,iV 0]),2,24):=by kernel_rfl
 obtain ⟨C,hi,m,q,p⟩:=info_parts d
 have e:∀j u,(Ah r)[j]?=some u->W.cell? (((aV g 0):Addr).add j)=some u:=fun j u w=>by
  rw[zy]
  simp only[World.cell?,y]
  unfold Ah at w
  simpa using w
 obtain ⟨v',w',t,h2,h3,_⟩:=run_append_own (P:=Try.prog) W B 127 o.type 23 C _ 2 24 qk hi m q p rfl (by decide) v l.length _ b (aV g 0) 1 c (Ah r) rfl e (CV r) (by unfold maxLen;omega) (by omega) f
 have hb:=Mp b r o.type g c y k t
 unfold Oper.wp
 simp[execOp,A,resolve,invoke,builtin,hs,z,t,Result.andThen]
 refine h v' w' ?_ h3 hb
 unfold CE
 rw[ym,zB]
 simpa using h2
structure Rz (W:World) (base:Nat) (va:Value) (ls:List Rf) (r:Rf) (w1:World) (v:Value):Prop where
 own:CE base w1 v (ls++[r])
 grown:W.grownBy w1 va.ownBlock
 blk:v.ownBlock=va.ownBlock∨∃g,v.ownBlock=some g∧W.heap.size<=g
def Sy(w:World)(v:Value)(r:Rf):Prop:=∃g,v=.slice (some ⟨g,0,none⟩) 1 1∧w.heap[g]?=some (.cells #[.string r.name,.int .i64 r.n] 23 (0,0))
theorem Sy.up{w w':World}{v:Value}{r:Rf}(h:Sy w v r)(hb:Below w.heap.size w w'):Sy w' v r:=by
 obtain ⟨g,h1,h2⟩:=h
 exact ⟨g,h1,(hb.block g (yf.1 h2).1).trans h2⟩
structure ND (W:World) (base:Nat) (va:Value) (ls:List Rf) (r:Rf) (Bx s24 s25:Nat) (l:Array Bool) (tm:Array Value) (w:World):Prop where
 one:l.getD 6 false=false->Below W.heap.size W w∧(l.getD 5 false=true->Sy w (tm.getD s24 undef) r)
 two:l.getD 6 false=true->l.getD 7 false=false->Rz W base va ls r w (tm.getD s25 undef)
 three:l.getD 7 false=true->∃w1 v,Rz W base va ls r w1 v∧w=w1.setCell ⟨Bx,0,none⟩ v
theorem ND.quiet{W:World}{base:Nat}{va:Value}{ls:List Rf}{r:Rf}{Bx a b:Nat}{l:Array Bool}{tm:Array Value}{w w2:World}{i t:Nat}{v:Value}(h:ND W base va ls r Bx a b l tm w)(f:l.getD 6 false=false)(k:l.getD 7 false=false)(c:i≠5)(d:i≠6)(e:i≠7)(j:t < a)(hb:Below w.heap.size w w2):ND W base va ls r Bx a b (l.setIfInBounds i true) (tm.setIfInBounds t v) w2:=by
 obtain ⟨h1,h2⟩:=h.one f
 refine ⟨fun _=>⟨h1.trans (hb.mono h1.size),fun h5=>?_⟩,fun h6=>?_,fun g=>?_⟩
 ·rw[Aa c] at h5
  rw[BD (Nat.ne_of_lt j)]
  exact (h2 h5).up hb
 ·rw[Aa d,f] at h6;cases h6
 ·rw[Aa e,k] at g;cases g
def U0(va:Value)(b6 ub uo:Nat)(r:Rf)(j:Nat)(v:Value)(_:World):Prop:=match j with
 |0=>v=va
 |1=>v=.pointer (some ⟨b6,0,none⟩)
 |2=>v=.pointer (some ⟨ub,uo,none⟩)
 |3=>v=.pointer (some ⟨ub,uo,none⟩)
 |4=>v=.agg #[.string r.name,.int .i64 r.n]
 |_=>True
theorem Ur{N:Act}{W0:World}{Q:QT}{l n Bx b6 ub uo base:Nat}{va:Value}{ls:List Rf}{r:Rf}(ops:Array Oper)(E:Fx Try.f14 7=some ops)
 (W:N.tmps.getD 4 undef=.pointer (some ⟨Bx,0,none⟩))(a6:N.tmps.getD 6 undef=.pointer (some ⟨b6,0,none⟩))(X:N.tmps.size=64)
 (R:Bx < W0.heap.size)(a0:b6 < W0.heap.size)(V:ub < W0.heap.size)(S:∃u,W0.heap[Bx]?=some (.cells #[u] 127 (0,0)))(s:W0.cell? ⟨Bx,0,none⟩=some va)(D:W0.cell? ⟨b6,0,none⟩=some (.pointer (some ⟨ub,uo,none⟩)))
 (x:W0.cell? ⟨ub,uo,none⟩=some (.string r.name))(C:W0.cell? ⟨ub,uo+1,none⟩=some (.int .i64 r.n))(F:CE base W0 va ls)(O:ls.length+1<=1000000000)(H:base<=W0.heap.size)(aa:Bx < base)
 (hQ:∀(a:Act) w1 v,a.tmps.size=64->a.defers=N.defers->(∀t,(t < 19∨25 < t)->a.tmps.getD t undef=N.tmps.getD t undef)->Rz W0 base va ls r w1 v->Q .normal a (w1.setCell ⟨Bx,0,none⟩ v)):
  (Code.region 7 ops true).wpIn (Fence.wide.inRound l) n Try.prog Q N W0:=by
 obtain rfl:=yh ((rfl:Fx Try.f14 7=some _).symm.trans E)
 clear E
 refine Ga (by kernel_rfl) (ND W0 base va ls r Bx 24 25) (U0 va b6 ub uo r) (fun _ _ _=>True) (by kernel_rfl) (by rw[X];kernel_rfl) (by kernel_rfl) (by kernel_rfl) (fun _ j v w w' _ _ _ h=>by unfold U0 at h ⊢;exact h) ⟨fun _=>⟨(yg _ _).drew,fun h=>(by cases h)⟩,fun h=>(by cases h),fun h=>(by cases h)⟩ ?_ ?_
 ·intro ix b a w' hM f o A
  have y:=yb hM.ext
  have L:=(yf.1 A).1
  have K:=hM.size
  have M:b.getD 6 false=false->b.getD 7 false=false:=fun i=>by
   rw[yi];intro B
   have:=A1 hM.down 8 7 6 (by kernel_rfl) B
   rw[i] at this;cases this
  match ix,L with
  |0,_=>
   have d:=hM.old f 4 (by kernel_rfl) _ W
   have i:b.getD 6 false=false:=by
    rw[yi];intro h6
    have:=A1 hM.down 8 6 0 (by kernel_rfl) h6
    rw[hM.not_yet f] at this;cases this
   have hb:=(y.o.one i).1
   have q:=yb i
   have m:=yb (M i)
   clear i
   have c:=(hb.cell (p:=(aV Bx 0)) R).trans s
   clear s x C D
   obtain rfl:=yh A
   go_simp
   exact ⟨_,rfl,y.o.quiet q.o m.o (by decide) (by decide) (by decide) (by decide) (yg _ _),trivial,rfl⟩
  |1,_=>
   have d:=hM.old f 6 (by kernel_rfl) _ a6
   have i:b.getD 6 false=false:=by
    rw[yi];intro h6
    have:=A1 hM.down 8 6 1 (by kernel_rfl) h6
    rw[hM.not_yet f] at this;cases this
   have hb:=(y.o.one i).1
   have q:=yb i
   have m:=yb (M i)
   clear i s x C D
   obtain rfl:=yh A
   go_simp
   exact ⟨_,rfl,y.o.quiet q.o m.o (by decide) (by decide) (by decide) (by decide) (yg _ _),trivial,rfl⟩
  |2,_=>
   have d:a.tmps[20]?.getD undef=pV b6 0:=hM.dep f 1 20 (by kernel_rfl) (by kernel_rfl)
   have i:b.getD 6 false=false:=by
    rw[yi];intro h6
    have:=A1 hM.down 8 6 2 (by kernel_rfl) h6
    rw[hM.not_yet f] at this;cases this
   have hb:=(y.o.one i).1
   have q:=yb i
   have m:=yb (M i)
   clear i
   have c:=(hb.cell (p:=(aV b6 0)) a0).trans D
   clear s x C D
   obtain rfl:=yh A
   go_simp
   exact ⟨_,rfl,y.o.quiet q.o m.o (by decide) (by decide) (by decide) (by decide) (yg _ _),trivial,rfl⟩
  |3,_=>
   have d:a.tmps[21]?.getD undef=pV ub uo:=hM.dep f 2 21 (by kernel_rfl) (by kernel_rfl)
   have i:b.getD 6 false=false:=by
    rw[yi];intro h6
    have:=A1 hM.down 8 6 3 (by kernel_rfl) h6
    rw[hM.not_yet f] at this;cases this
   have hb:=(y.o.one i).1
   have q:=yb i
   have m:=yb (M i)
   clear i s x C D
   obtain rfl:=yh A
   go_simp
   exact ⟨_,rfl,y.o.quiet q.o m.o (by decide) (by decide) (by decide) (by decide) (yg _ _),trivial,rfl⟩
  |4,_=>
   have d:a.tmps[22]?.getD undef=pV ub uo:=hM.dep f 3 22 (by kernel_rfl) (by kernel_rfl)
   have i:b.getD 6 false=false:=by
    rw[yi];intro h6
    have:=A1 hM.down 8 6 4 (by kernel_rfl) h6
    rw[hM.not_yet f] at this;cases this
   have hb:=(y.o.one i).1
   have q:=yb i
   have m:=yb (M i)
   clear i
   have c:=(hb.cell (p:=(aV ub uo)) V).trans x
   have c1:=(hb.cell (p:=(aV ub (uo+1))) V).trans C
   clear s x C D
   obtain rfl:=yh A
   go_simp
   exact ⟨_,rfl,y.o.quiet q.o m.o (by decide) (by decide) (by decide) (by decide) (yg _ _),trivial,rfl⟩
  |5,_=>
   have d:a.tmps[23]?.getD undef=.agg #[.string r.name,iV r.n]:=hM.dep f 4 23 (by kernel_rfl) (by kernel_rfl)
   have i:b.getD 6 false=false:=by
    rw[yi];intro h6
    have:=A1 hM.down 8 6 5 (by kernel_rfl) h6
    rw[hM.not_yet f] at this;cases this
   have hb:=(y.o.one i).1
   have q:=yb i
   have m:=yb (M i)
   clear i
   have HB:=yb hb
   have HL:Hid (5 < b.size):=yb (by rw[K];show 5 < 8;omega)
   have Y:Hid (24 < a.tmps.size):=yb (by rw[hM.tmps,X];decide)
   clear s x C D hb
   obtain rfl:=yh A
   go_simp
   refine ⟨_,rfl,⟨fun _=>⟨HB.o.alloc HB.o.size _,fun _=>⟨w'.heap.size,?_,World.alloc_heap_new _ _⟩⟩,fun h6=>?_,fun B=>?_⟩,trivial,trivial⟩
   ·show (a.put (some 24) (.slice (some (aV w'.heap.size 0)) 1 1)).tmps.getD 24 undef=_
    exact AQ _ Y.o
   ·rw[Aa (by decide),q.o] at h6;cases h6
   ·rw[Aa (by decide),m.o] at B;cases B
  |6,_=>
   have d:a.tmps[19]?.getD undef=va:=hM.dep f 0 19 (by kernel_rfl) (by kernel_rfl)
   have i:=hM.not_yet f
   have l5:b.getD 5 false=true:=hM.came f 5 (by kernel_rfl)
   obtain ⟨g,P,hg⟩:=(y.o.one i).2 l5
   have hb:=(y.o.one i).1
   have HL:Hid (6 < b.size):=yb (by rw[K];show 6 < 8;omega)
   have Y:Hid (25 < a.tmps.size):=yb (by rw[hM.tmps,X];decide)
   have m:=yb (M i)
   rw[yG] at P
   refine Ei base (.tmp 19) (.tmp 24) (by obtain rfl:=yh A;rfl) va ls (by simpa[Act.eval] using d) (F.up fun k hk L=>hb.block k L) r g 1 (by simpa[Act.eval] using P) hg O (yr H hb.size) ?_
   intro v' w5 J z a8
   obtain rfl:=yh A
   refine ⟨v',rfl,⟨fun h6=>?_,fun _ _=>⟨?_,?_,?_⟩,fun B=>?_⟩,trivial,trivial⟩
   ·simp[HL.o] at h6
   ·show CE base w5 ((a.put (some 25) v').tmps.getD 25 undef) _
    rw[AQ _ Y.o];exact J
   ·exact ⟨z.os.trans hb.os,z.tape.trans hb.tape,z.output.trans hb.output,yr hb.size z.size,fun k hk a7=>(z.block k (yp hk hb.size) a7).trans (hb.block k hk)⟩
   ·show ((a.put (some 25) v').tmps.getD 25 undef).ownBlock=_∨∃g,((a.put (some 25) v').tmps.getD 25 undef).ownBlock=some g∧_
    rw[AQ _ Y.o]
    exact a8.imp id (fun h=>⟨_,h,hb.size⟩)
   ·rw[Aa (by decide),m.o] at B;cases B
  |7,_=>
   have d:=hM.old f 4 (by kernel_rfl) _ W
   have l6:b.getD 6 false=true:=hM.came f 6 (by kernel_rfl)
   have a1:=hM.not_yet f
   have G:=y.o.two l6 a1
   have I:w'.heap[Bx]?=W0.heap[Bx]?:=G.grown.block Bx R (fun e=>by
    have:=(F.lt Bx e.symm).1;omega)
   obtain ⟨u0,T⟩:=S
   have c:=Ac (o:=0) I
   have fz:w'.frozen? (aV Bx 0)=false:=by unfold World.frozen?;rw[I,T];rfl
   have c2:w'.cell? (aV Bx 0)=some va:=c.trans s
   obtain ⟨v,Z⟩:∃v,v=a.tmps.getD 25 undef:=⟨_,rfl⟩
   rw[<-Z] at G
   have HP:=yb G
   rw[yG] at Z
   replace Z:=Z.symm
   have HL:Hid (7 < b.size):=yb (by rw[K];show 7 < 8;omega)
   have a2:=yb l6
   obtain ⟨ad,nn,cc,rfl⟩:∃ad n c,v=.slice ad n c:=by
    rcases G.own.2 with ⟨rfl,_⟩|⟨_,_,_,rfl,_⟩
    ·exact ⟨_,_,_,rfl⟩
    ·exact ⟨_,_,_,rfl⟩
   clear s x C D G c I T l6
   obtain rfl:=yh A
   go_simp
   refine ⟨undef,rfl,⟨fun h6=>?_,fun _ B=>?_,fun _=>⟨w',_,HP.o,rfl⟩⟩,trivial,trivial⟩
   ·rw[Aa (by decide),a2.o] at h6;cases h6
   ·simp[HL.o] at B
 ·intro b a w' U hM
  obtain ⟨w1,v,G,rfl⟩:=hM.ext.three (U 7 (show 7 < 8 by omega))
  exact hQ a w1 v (hM.tmps.trans X) hM.defers (EZ (lo:=19) (hi:=25) (by kernel_rfl) hM) G
def Tc(va:Value)(b6 ub uo:Nat)(r:Rf)(j:Nat)(v:Value)(_:World):Prop:=match j with
 |0=>v=va
 |1=>v=.pointer (some ⟨b6,0,none⟩)
 |2=>v=.pointer (some ⟨ub,uo,none⟩)
 |3=>v=.pointer (some ⟨ub,uo,none⟩)
 |4=>v=.agg #[.string r.name,.int .i64 r.n]
 |_=>True
theorem U1{N:Act}{W0:World}{Q:QT}{l n Bx b6 ub uo base:Nat}{va:Value}{ls:List Rf}{r:Rf}(ops:Array Oper)(E:Fx Try.f14 10=some ops)
 (W:N.tmps.getD 5 undef=.pointer (some ⟨Bx,0,none⟩))(a6:N.tmps.getD 7 undef=.pointer (some ⟨b6,0,none⟩))(X:N.tmps.size=64)
 (R:Bx < W0.heap.size)(a0:b6 < W0.heap.size)(V:ub < W0.heap.size)(S:∃u,W0.heap[Bx]?=some (.cells #[u] 127 (0,0)))(s:W0.cell? ⟨Bx,0,none⟩=some va)(D:W0.cell? ⟨b6,0,none⟩=some (.pointer (some ⟨ub,uo,none⟩)))
 (x:W0.cell? ⟨ub,uo,none⟩=some (.string r.name))(C:W0.cell? ⟨ub,uo+1,none⟩=some (.int .i64 r.n))(F:CE base W0 va ls)(O:ls.length+1<=1000000000)(H:base<=W0.heap.size)(aa:Bx < base)
 (hQ:∀(a:Act) w1 v,a.tmps.size=64->a.defers=N.defers->(∀t,(t < 28∨34 < t)->a.tmps.getD t undef=N.tmps.getD t undef)->Rz W0 base va ls r w1 v->Q .normal a (w1.setCell ⟨Bx,0,none⟩ v)):
  (Code.region 10 ops true).wpIn (Fence.wide.inRound l) n Try.prog Q N W0:=by
 obtain rfl:=yh ((rfl:Fx Try.f14 10=some _).symm.trans E)
 clear E
 refine Ga (by kernel_rfl) (ND W0 base va ls r Bx 33 34) (Tc va b6 ub uo r) (fun _ _ _=>True) (by kernel_rfl) (by rw[X];kernel_rfl) (by kernel_rfl) (by kernel_rfl) (fun _ j v w w' _ _ _ h=>by unfold Tc at h ⊢;exact h) ⟨fun _=>⟨(yg _ _).drew,fun h=>(by cases h)⟩,fun h=>(by cases h),fun h=>(by cases h)⟩ ?_ ?_
 ·intro ix b a w' hM f o A
  have y:=yb hM.ext
  have L:=(yf.1 A).1
  have K:=hM.size
  have M:b.getD 6 false=false->b.getD 7 false=false:=fun i=>by
   rw[yi];intro B
   have:=A1 hM.down 8 7 6 (by kernel_rfl) B
   rw[i] at this;cases this
  match ix,L with
  |0,_=>
   have d:=hM.old f 5 (by kernel_rfl) _ W
   have i:b.getD 6 false=false:=by
    rw[yi];intro h6
    have:=A1 hM.down 8 6 0 (by kernel_rfl) h6
    rw[hM.not_yet f] at this;cases this
   have hb:=(y.o.one i).1
   have q:=yb i
   have m:=yb (M i)
   clear i
   have c:=(hb.cell (p:=(aV Bx 0)) R).trans s
   clear s x C D
   obtain rfl:=yh A
   go_simp
   exact ⟨_,rfl,y.o.quiet q.o m.o (by decide) (by decide) (by decide) (by decide) (yg _ _),trivial,rfl⟩
  |1,_=>
   have d:=hM.old f 7 (by kernel_rfl) _ a6
   have i:b.getD 6 false=false:=by
    rw[yi];intro h6
    have:=A1 hM.down 8 6 1 (by kernel_rfl) h6
    rw[hM.not_yet f] at this;cases this
   have hb:=(y.o.one i).1
   have q:=yb i
   have m:=yb (M i)
   clear i s x C D
   obtain rfl:=yh A
   go_simp
   exact ⟨_,rfl,y.o.quiet q.o m.o (by decide) (by decide) (by decide) (by decide) (yg _ _),trivial,rfl⟩
  |2,_=>
   have d:a.tmps[29]?.getD undef=pV b6 0:=hM.dep f 1 29 (by kernel_rfl) (by kernel_rfl)
   have i:b.getD 6 false=false:=by
    rw[yi];intro h6
    have:=A1 hM.down 8 6 2 (by kernel_rfl) h6
    rw[hM.not_yet f] at this;cases this
   have hb:=(y.o.one i).1
   have q:=yb i
   have m:=yb (M i)
   clear i
   have c:=(hb.cell (p:=(aV b6 0)) a0).trans D
   clear s x C D
   obtain rfl:=yh A
   go_simp
   exact ⟨_,rfl,y.o.quiet q.o m.o (by decide) (by decide) (by decide) (by decide) (yg _ _),trivial,rfl⟩
  |3,_=>
   have d:a.tmps[30]?.getD undef=pV ub uo:=hM.dep f 2 30 (by kernel_rfl) (by kernel_rfl)
   have i:b.getD 6 false=false:=by
    rw[yi];intro h6
    have:=A1 hM.down 8 6 3 (by kernel_rfl) h6
    rw[hM.not_yet f] at this;cases this
   have hb:=(y.o.one i).1
   have q:=yb i
   have m:=yb (M i)
   clear i s x C D
   obtain rfl:=yh A
   go_simp
   exact ⟨_,rfl,y.o.quiet q.o m.o (by decide) (by decide) (by decide) (by decide) (yg _ _),trivial,rfl⟩
  |4,_=>
   have d:a.tmps[31]?.getD undef=pV ub uo:=hM.dep f 3 31 (by kernel_rfl) (by kernel_rfl)
   have i:b.getD 6 false=false:=by
    rw[yi];intro h6
    have:=A1 hM.down 8 6 4 (by kernel_rfl) h6
    rw[hM.not_yet f] at this;cases this
   have hb:=(y.o.one i).1
   have q:=yb i
   have m:=yb (M i)
   clear i
   have c:=(hb.cell (p:=(aV ub uo)) V).trans x
   have c1:=(hb.cell (p:=(aV ub (uo+1))) V).trans C
   clear s x C D
   obtain rfl:=yh A
   go_simp
   exact ⟨_,rfl,y.o.quiet q.o m.o (by decide) (by decide) (by decide) (by decide) (yg _ _),trivial,rfl⟩
  |5,_=>
   have d:a.tmps[32]?.getD undef=.agg #[.string r.name,iV r.n]:=hM.dep f 4 32 (by kernel_rfl) (by kernel_rfl)
   have i:b.getD 6 false=false:=by
    rw[yi];intro h6
    have:=A1 hM.down 8 6 5 (by kernel_rfl) h6
    rw[hM.not_yet f] at this;cases this
   have hb:=(y.o.one i).1
   have q:=yb i
   have m:=yb (M i)
   clear i
   have HB:=yb hb
   have HL:Hid (5 < b.size):=yb (by rw[K];show 5 < 8;omega)
   have Y:Hid (33 < a.tmps.size):=yb (by rw[hM.tmps,X];decide)
   clear s x C D hb
   obtain rfl:=yh A
   go_simp
   refine ⟨_,rfl,⟨fun _=>⟨HB.o.alloc HB.o.size _,fun _=>⟨w'.heap.size,?_,World.alloc_heap_new _ _⟩⟩,fun h6=>?_,fun B=>?_⟩,trivial,trivial⟩
   ·show (a.put (some 33) (.slice (some (aV w'.heap.size 0)) 1 1)).tmps.getD 33 undef=_
    exact AQ _ Y.o
   ·rw[Aa (by decide),q.o] at h6;cases h6
   ·rw[Aa (by decide),m.o] at B;cases B
  |6,_=>
   have d:a.tmps[28]?.getD undef=va:=hM.dep f 0 28 (by kernel_rfl) (by kernel_rfl)
   have i:=hM.not_yet f
   have l5:b.getD 5 false=true:=hM.came f 5 (by kernel_rfl)
   obtain ⟨g,P,hg⟩:=(y.o.one i).2 l5
   have hb:=(y.o.one i).1
   have HL:Hid (6 < b.size):=yb (by rw[K];show 6 < 8;omega)
   have Y:Hid (34 < a.tmps.size):=yb (by rw[hM.tmps,X];decide)
   have m:=yb (M i)
   rw[yG] at P
   refine Ei base (.tmp 28) (.tmp 33) (by obtain rfl:=yh A;rfl) va ls (by simpa[Act.eval] using d) (F.up fun k hk L=>hb.block k L) r g 1 (by simpa[Act.eval] using P) hg O (yr H hb.size) ?_
   intro v' w5 J z a8
   obtain rfl:=yh A
   refine ⟨v',rfl,⟨fun h6=>?_,fun _ _=>⟨?_,?_,?_⟩,fun B=>?_⟩,trivial,trivial⟩
   ·simp[HL.o] at h6
   ·show CE base w5 ((a.put (some 34) v').tmps.getD 34 undef) _
    rw[AQ _ Y.o];exact J
   ·exact ⟨z.os.trans hb.os,z.tape.trans hb.tape,z.output.trans hb.output,yr hb.size z.size,fun k hk a7=>(z.block k (yp hk hb.size) a7).trans (hb.block k hk)⟩
   ·show ((a.put (some 34) v').tmps.getD 34 undef).ownBlock=_∨∃g,((a.put (some 34) v').tmps.getD 34 undef).ownBlock=some g∧_
    rw[AQ _ Y.o]
    exact a8.imp id (fun h=>⟨_,h,hb.size⟩)
   ·rw[Aa (by decide),m.o] at B;cases B
  |7,_=>
   have d:=hM.old f 5 (by kernel_rfl) _ W
   have l6:b.getD 6 false=true:=hM.came f 6 (by kernel_rfl)
   have a1:=hM.not_yet f
   have G:=y.o.two l6 a1
   have I:w'.heap[Bx]?=W0.heap[Bx]?:=G.grown.block Bx R (fun e=>by
    have:=(F.lt Bx e.symm).1;omega)
   obtain ⟨u0,T⟩:=S
   have c:=Ac (o:=0) I
   have fz:w'.frozen? (aV Bx 0)=false:=by unfold World.frozen?;rw[I,T];rfl
   have c2:w'.cell? (aV Bx 0)=some va:=c.trans s
   obtain ⟨v,Z⟩:∃v,v=a.tmps.getD 34 undef:=⟨_,rfl⟩
   rw[<-Z] at G
   have HP:=yb G
   rw[yG] at Z
   replace Z:=Z.symm
   have HL:Hid (7 < b.size):=yb (by rw[K];show 7 < 8;omega)
   have a2:=yb l6
   obtain ⟨ad,nn,cc,rfl⟩:∃ad n c,v=.slice ad n c:=by
    rcases G.own.2 with ⟨rfl,_⟩|⟨_,_,_,rfl,_⟩
    ·exact ⟨_,_,_,rfl⟩
    ·exact ⟨_,_,_,rfl⟩
   clear s x C D G c I T l6
   obtain rfl:=yh A
   go_simp
   refine ⟨undef,rfl,⟨fun h6=>?_,fun _ B=>?_,fun _=>⟨w',_,HP.o,rfl⟩⟩,trivial,trivial⟩
   ·rw[Aa (by decide),a2.o] at h6;cases h6
   ·simp[HL.o] at B
 ·intro b a w' U hM
  obtain ⟨w1,v,G,rfl⟩:=hM.ext.three (U 7 (show 7 < 8 by omega))
  exact hQ a w1 v (hM.tmps.trans X) hM.defers (EZ (lo:=28) (hi:=34) (by kernel_rfl) hM) G
structure KY (W0:World) (base:Nat) (w:World) (va:Value) (la:List Rf) (vb:Value) (lb:List Rf):Prop where
 below:Below base W0 w
 size:base<=w.heap.size
 a:CE base w va la
 b:CE base w vb lb
 apart:∀g,va.ownBlock=some g->vb.ownBlock≠some g
 keep:∀(k:Nat) (o:Obj),W0.heap[k]?=some o->(∀c f,o≠Obj.cells c 23 f)->w.heap[k]?=some o
theorem CE.not{w:World}{base:Nat}{v:Value}{l:List Rf}(h:CE base w v l){g:Nat}{o:Obj}(a:v.ownBlock=some g)(d:w.heap[g]?=some o)(e:∀c f,o≠Obj.cells c 23 f):False:=by
 rcases h.2 with ⟨rfl,_⟩|⟨k,cap,i,rfl,_,b,_⟩
 ·cases a
 ·cases a
  rw[d] at b
  exact e _ _ (yh b)
theorem KY.up{W0 w w':World}{base:Nat}{va vb:Value}{la lb:List Rf}(h:KY W0 base w va la vb lb)(hb:Below w.heap.size w w'):KY W0 base w' va la vb lb:=
 ⟨h.below.trans (hb.mono h.size),yr h.size hb.size,h.a.up (fun g _ c=>hb.block g c),h.b.up (fun g _ c=>hb.block g c),h.apart,fun k o d e=>by
  have:=h.keep k o d e
  rw[hb.block k (yf.1 this).1];exact this⟩
theorem CE.lt{w:World}{base:Nat}{v:Value}{l:List Rf}(h:CE base w v l){g:Nat}(a:v.ownBlock=some g):base<=g∧g < w.heap.size:=World.ownsRow.lt h g a
theorem KY.putA{W0 w w':World}{base:Nat}{va vb c:Value}{la lb i:List Rf}(h:KY W0 base w va la vb lb)(l:CE base w' c i)(d:w.grownBy w' va.ownBlock)(j:c.ownBlock=va.ownBlock∨c.ownBlock=some w.heap.size):KY W0 base w' c i vb lb:=by
 refine ⟨h.below.trans ⟨d.os,d.tape,d.output,d.size,fun k f=>d.block k (yp f h.size) (fun e=>?_)⟩,yr h.size d.size,l,h.b.up (fun g m f=>d.block g f (fun e=>h.apart g e.symm m)),fun g h1 h2=>?_,fun k o p n=>?_⟩
 ·have:=(h.a.lt e.symm).1;omega
 ·rcases j with j|j
  ·rw[j] at h1;exact h.apart g h1 h2
  ·rw[j] at h1;cases h1
   have:=(h.b.lt h2).2;omega
 ·have h1:=h.keep k o p n
  rw[d.block k (yf.1 h1).1 (fun e=>h.a.not e.symm h1 n)];exact h1
theorem KY.swap{W0 w:World}{base:Nat}{va vb:Value}{la lb:List Rf}(h:KY W0 base w va la vb lb):KY W0 base w vb lb va la:=⟨h.below,h.size,h.b,h.a,fun g h1 h2=>h.apart g h2 h1,h.keep⟩
def Fc(w:World)(va vb v:Value)(r:Rf):Prop:=∃g,v=.slice (some ⟨g,0,none⟩) 1 1∧w.heap[g]?=some (.cells #[.string r.name,.int .i64 r.n] 23 (0,0))∧va.ownBlock≠some g∧vb.ownBlock≠some g
theorem Fc.up{w w':World}{va vb v:Value}{r:Rf}(h:Fc w va vb v r)(hb:Below w.heap.size w w'):Fc w' va vb v r:=by
 obtain ⟨g,h1,h2,h3⟩:=h
 exact ⟨g,h1,(hb.block g (yf.1 h2).1).trans h2,h3⟩
theorem Fc.grown{w w':World}{va vb v a:Value}{r:Rf}(h:Fc w va vb v r)(d:w.grownBy w' va.ownBlock)(b:a.ownBlock=va.ownBlock∨a.ownBlock=some w.heap.size):Fc w' a vb v r:=by
 obtain ⟨g,h1,h2,h3,h4⟩:=h
 have c:=(yf.1 h2).1
 refine ⟨g,h1,(d.block g c (fun e=>h3 e.symm)).trans h2,fun e=>?_,h4⟩
 rcases b with b|b
 ·exact h3 (b▸e)
 ·rw[b] at e;cases e;exact xA _ c
theorem I5{W0 w:World}{base:Nat}{va vb:Value}{la lb:List Rf}(h:KY W0 base w va la vb lb)(r:Rf):Fc (w.alloc (.cells #[.string r.name,.int .i64 r.n] 23)) va vb (.slice (some ⟨w.heap.size,0,none⟩) 1 1) r:=
 ⟨w.heap.size,rfl,World.alloc_heap_new _ _,fun e=>by have:=(h.a.lt e).2;omega,fun e=>by have:=(h.b.lt e).2;omega⟩
structure IT (W0:World) (base B4 B5:Nat) (va:Value) (la:List Rf) (vb:Value) (lb:List Rf) (r1 r2:Rf) (l:Array Bool) (tm:Array Value) (w:World):Prop where
 p00:l.getD 8 false=false->KY W0 base w va la vb lb∧(l.getD 7 false=true->Fc w va vb (tm.getD 48 undef) r1)∧(l.getD 16 false=true->Fc w va vb (tm.getD 57 undef) r2)
 p10:l.getD 8 false=true->l.getD 17 false=false->KY W0 base w (tm.getD 49 undef) (la++[r1]) vb lb∧(l.getD 16 false=true->Fc w (tm.getD 49 undef) vb (tm.getD 57 undef) r2)
 p11:l.getD 17 false=true->l.getD 18 false=false->KY W0 base w (tm.getD 49 undef) (la++[r1]) (tm.getD 58 undef) (lb++[r2])
 p18:l.getD 18 false=true->l.getD 19 false=false->∃w1,KY W0 base w1 (tm.getD 49 undef) (la++[r1]) (tm.getD 58 undef) (lb++[r2])∧w=w1.setCell ⟨B4,0,none⟩ (tm.getD 49 undef)
 p19:l.getD 19 false=true->∃w1 v1 v2,KY W0 base w1 v1 (la++[r1]) v2 (lb++[r2])∧w=(w1.setCell ⟨B4,0,none⟩ v1).setCell ⟨B5,0,none⟩ v2
theorem IT.quiet{W0:World}{base B4 B5:Nat}{va vb:Value}{la lb:List Rf}{r1 r2:Rf}{l:Array Bool}{tm:Array Value}{w:World}{i t:Nat}{v:Value}(h:IT W0 base B4 B5 va la vb lb r1 r2 l tm w)(a:l.getD 17 false=false)(e:l.getD 18 false=false)(f:l.getD 19 false=false)
 (hi:i≠7∧i≠8∧i≠16∧i≠17∧i≠18∧i≠19)(s:t≠48∧t≠49∧t≠57):IT W0 base B4 B5 va la vb lb r1 r2 (l.setIfInBounds i true) (tm.setIfInBounds t v) w:=by
 obtain ⟨u,q,b,m,j,p⟩:=hi
 obtain ⟨k,n,c⟩:=s
 refine ⟨fun d=>?_,fun d _=>?_,fun h=>?_,fun h=>?_,fun h=>?_⟩
 ·rw[Aa q] at d
  obtain ⟨g,r,o⟩:=h.p00 d
  rw[Aa u,Aa b,BD k,BD c]
  exact ⟨g,r,o⟩
 ·rw[Aa q] at d
  obtain ⟨g,o⟩:=h.p10 d a
  rw[Aa b,BD n,BD c]
  exact ⟨g,o⟩
 ·rw[Aa m,a] at h;cases h
 ·rw[Aa j,e] at h;cases h
 ·rw[Aa p,f] at h;cases h
theorem IT.below{W0:World}{base B4 B5:Nat}{va vb:Value}{la lb:List Rf}{r1 r2:Rf}{l:Array Bool}{tm:Array Value}{w:World}(h:IT W0 base B4 B5 va la vb lb r1 r2 l tm w)(a:l.getD 17 false=false):Below base W0 w∧base<=w.heap.size:=by
 cases b:l.getD 8 false with
 |false=>exact ⟨(h.p00 b).1.below,(h.p00 b).1.size⟩
 |true=>exact ⟨(h.p10 b a).1.below,(h.p10 b a).1.size⟩
def U2(va vb:Value)(B B3 b1 o1 n1 c1 b2 o2 n2 c2 i:Nat)(r1 r2:Rf)(j:Nat)(v:Value)(_:World):Prop:=match j with
 |0=>v=va
 |1=>v=.pointer (some ⟨B,21,none⟩)
 |2=>v=.slice (some ⟨b1,o1,none⟩) n1 c1
 |3=>v=.int .i64 i
 |4=>v=.pointer (some ⟨b1,o1+i*51,none⟩)
 |5=>v=.pointer (some ⟨b1,o1+i*51+1,none⟩)
 |6=>v=.agg #[.string r1.name,.int .i64 r1.n]
 |9=>v=vb
 |10=>v=.pointer (some ⟨B3,21,none⟩)
 |11=>v=.slice (some ⟨b2,o2,none⟩) n2 c2
 |12=>v=.int .i64 i
 |13=>v=.pointer (some ⟨b2,o2+i*51,none⟩)
 |14=>v=.pointer (some ⟨b2,o2+i*51+1,none⟩)
 |15=>v=.agg #[.string r2.name,.int .i64 r2.n]
 |_=>True
theorem U3{a₀:Act}{W0:World}{Q:QT}{base B B3 B4 B5 b1 o1 n1 c1 b2 o2 n2 c2 i:Nat}{va vb:Value}{la lb:List Rf}{r1 r2:Rf}(ops:Array Oper)(a6:Fx Try.f14 14=some ops)
 (b3:a₀.tmps.getD 1 undef=.pointer (some ⟨B,0,none⟩))(b5:a₀.tmps.getD 3 undef=.pointer (some ⟨B3,0,none⟩))(an:a₀.tmps.getD 4 undef=.pointer (some ⟨B4,0,none⟩))(af:a₀.tmps.getD 5 undef=.pointer (some ⟨B5,0,none⟩))(ag:a₀.tmps.getD 8 undef=.int .i64 i)(hz:a₀.tmps.size=64)
 (hB:B < base)(ax:B3 < base)(ae:B4 < base)(am:B5 < base)(ah:b1 < base)(ai:b2 < base)(ap:B4≠B5)(J:i < n1)(I:i < n2)
 (ac:∃u,W0.heap[B4]?=some (.cells #[u] 127 (0,0)))(ab:∃u,W0.heap[B5]?=some (.cells #[u] 127 (0,0)))(G:W0.cell? ⟨B4,0,none⟩=some va)(A:W0.cell? ⟨B5,0,none⟩=some vb)
 (D:W0.cell? ⟨B,21,none⟩=some (.slice (some ⟨b1,o1,none⟩) n1 c1))(F:W0.cell? ⟨B3,21,none⟩=some (.slice (some ⟨b2,o2,none⟩) n2 c2))
 (C:W0.cell? ⟨b1,o1+i*51+1,none⟩=some (.string r1.name))(z:W0.cell? ⟨b1,o1+i*51+1+1,none⟩=some (.int .i64 r1.n))(E:W0.cell? ⟨b2,o2+i*51+1,none⟩=some (.string r2.name))(y:W0.cell? ⟨b2,o2+i*51+1+1,none⟩=some (.int .i64 r2.n))
 (h2:KY W0 base W0 va la vb lb)(aw:la.length+1<=1000000000)(az:lb.length+1<=1000000000)
 (hQ:∀(a:Act) w1 v1 v2,a.tmps.size=64->a.defers=a₀.defers->(∀t,(t < 41∨58 < t)->a.tmps.getD t undef=a₀.tmps.getD t undef)->KY W0 base w1 v1 (la++[r1]) v2 (lb++[r2])->Q .normal a ((w1.setCell ⟨B4,0,none⟩ v1).setCell ⟨B5,0,none⟩ v2)):
  (Code.region 14 ops true).wp Try.prog Q a₀ W0:=by
 obtain rfl:=yh ((rfl:Fx Try.f14 14=some _).symm.trans a6)
 clear a6
 refine Df (by kernel_rfl) (IT W0 base B4 B5 va la vb lb r1 r2) (U2 va vb B B3 b1 o1 n1 c1 b2 o2 n2 c2 i r1 r2) (fun _ _ _=>True) (by kernel_rfl) (by rw[hz];kernel_rfl) (by kernel_rfl) (fun _ j v w w' _ _ _ h=>by unfold U2 at h ⊢;exact h) ⟨fun _=>⟨h2.up (yg _ _).drew,fun h=>(by cases h),fun h=>(by cases h)⟩,fun h=>(by cases h),fun h=>(by cases h),fun h=>(by cases h),fun h=>(by cases h)⟩ ?_ ?_
 ·clear h2
  intro ix f a w' hM x o L
  have H:=yb hM.ext
  have ar:=(yf.1 L).1
  have Z:=hM.size
  have K:f.getD 17 false=false->f.getD 18 false=false∧f.getD 19 false=false:=fun n=>by
   constructor
   ·rw[yi];intro h7
    have:=A1 hM.down 20 18 17 (by kernel_rfl) h7
    rw[n] at this;cases this
   ·rw[yi];intro h7
    have:=A1 hM.down 20 19 17 (by kernel_rfl) h7
    rw[n] at this;cases this
  match ix,ar with
  |0,_=>
   have d:=hM.old x 4 (by kernel_rfl) _ an
   have k:f.getD 17 false=false:=by
    rw[yi];intro h6
    have:=A1 hM.down 20 17 0 (by kernel_rfl) h6
    rw[hM.not_yet x] at this;cases this
   obtain ⟨q,l⟩:=K k
   have hb:=(H.o.below k).1
   have r:=yb k;have s:=yb q;have m:=yb l
   clear k q l
   have c:=(hb.cell (p:=(aV B4 0)) ae).trans G
   clear G A D F C E z y J I K hb
   obtain rfl:=yh L
   go_simp
   exact ⟨_,rfl,H.o.quiet r.o s.o m.o (by decide) (by decide),trivial,rfl⟩
  |1,_=>
   have d:=hM.old x 1 (by kernel_rfl) _ b3
   have k:f.getD 17 false=false:=by
    rw[yi];intro h6
    have:=A1 hM.down 20 17 1 (by kernel_rfl) h6
    rw[hM.not_yet x] at this;cases this
   obtain ⟨q,l⟩:=K k
   have hb:=(H.o.below k).1
   have r:=yb k;have s:=yb q;have m:=yb l
   clear k q l G A D F C E z y J I K hb
   obtain rfl:=yh L
   go_simp
   exact ⟨_,rfl,H.o.quiet r.o s.o m.o (by decide) (by decide),trivial,rfl⟩
  |2,_=>
   have d:a.tmps[42]?.getD undef=pV B 21:=hM.dep x 1 42 (by kernel_rfl) (by kernel_rfl)
   have k:f.getD 17 false=false:=by
    rw[yi];intro h6
    have:=A1 hM.down 20 17 2 (by kernel_rfl) h6
    rw[hM.not_yet x] at this;cases this
   obtain ⟨q,l⟩:=K k
   have hb:=(H.o.below k).1
   have r:=yb k;have s:=yb q;have m:=yb l
   clear k q l
   have c:=(hb.cell (p:=(aV B 21)) hB).trans D
   clear G A D F C E z y J I K hb
   obtain rfl:=yh L
   go_simp
   exact ⟨_,rfl,H.o.quiet r.o s.o m.o (by decide) (by decide),trivial,rfl⟩
  |3,_=>
   have d:=hM.old x 8 (by kernel_rfl) _ ag
   have k:f.getD 17 false=false:=by
    rw[yi];intro h6
    have:=A1 hM.down 20 17 3 (by kernel_rfl) h6
    rw[hM.not_yet x] at this;cases this
   obtain ⟨q,l⟩:=K k
   have hb:=(H.o.below k).1
   have r:=yb k;have s:=yb q;have m:=yb l
   clear k q l G A D F C E z y J I K hb
   obtain rfl:=yh L
   go_simp
   exact ⟨_,rfl,H.o.quiet r.o s.o m.o (by decide) (by decide),trivial,rfl⟩
  |4,_=>
   have d1:a.tmps[43]?.getD undef=.slice (some (aV b1 o1)) n1 c1:=hM.dep x 2 43 (by kernel_rfl) (by kernel_rfl)
   have d2:a.tmps[44]?.getD undef=iV i:=hM.dep x 3 44 (by kernel_rfl) (by kernel_rfl)
   have aq:(i:Int) < (n1:Int):=by omega
   have k:f.getD 17 false=false:=by
    rw[yi];intro h6
    have:=A1 hM.down 20 17 4 (by kernel_rfl) h6
    rw[hM.not_yet x] at this;cases this
   obtain ⟨q,l⟩:=K k
   have hb:=(H.o.below k).1
   have r:=yb k;have s:=yb q;have m:=yb l
   clear k q l G A D F C E z y J I K hb
   obtain rfl:=yh L
   go_simp
   exact ⟨_,rfl,H.o.quiet r.o s.o m.o (by decide) (by decide),trivial,rfl⟩
  |5,_=>
   have d:a.tmps[45]?.getD undef=pV b1 (o1+i*51):=hM.dep x 4 45 (by kernel_rfl) (by kernel_rfl)
   have k:f.getD 17 false=false:=by
    rw[yi];intro h6
    have:=A1 hM.down 20 17 5 (by kernel_rfl) h6
    rw[hM.not_yet x] at this;cases this
   obtain ⟨q,l⟩:=K k
   have hb:=(H.o.below k).1
   have r:=yb k;have s:=yb q;have m:=yb l
   clear k q l G A D F C E z y J I K hb
   obtain rfl:=yh L
   go_simp
   exact ⟨_,rfl,H.o.quiet r.o s.o m.o (by decide) (by decide),trivial,rfl⟩
  |6,_=>
   have d:a.tmps[46]?.getD undef=pV b1 (o1+i*51+1):=hM.dep x 5 46 (by kernel_rfl) (by kernel_rfl)
   have k:f.getD 17 false=false:=by
    rw[yi];intro h6
    have:=A1 hM.down 20 17 6 (by kernel_rfl) h6
    rw[hM.not_yet x] at this;cases this
   obtain ⟨q,l⟩:=K k
   have hb:=(H.o.below k).1
   have r:=yb k;have s:=yb q;have m:=yb l
   clear k q l
   have c:=(hb.cell (p:=(aV b1 (o1+i*51+1))) ah).trans C
   have c1:=(hb.cell (p:=(aV b1 (o1+i*51+1+1))) ah).trans z
   clear G A D F C E z y J I K hb
   obtain rfl:=yh L
   go_simp
   exact ⟨_,rfl,H.o.quiet r.o s.o m.o (by decide) (by decide),trivial,rfl⟩
  |7,_=>
   have d:a.tmps[47]?.getD undef=.agg #[.string r1.name,iV r1.n]:=hM.dep x 6 47 (by kernel_rfl) (by kernel_rfl)
   have k:f.getD 17 false=false:=by
    rw[yi];intro h6
    have:=A1 hM.down 20 17 7 (by kernel_rfl) h6
    rw[hM.not_yet x] at this;cases this
   obtain ⟨q,l⟩:=K k
   have hb:=(H.o.below k).1
   have r:=yb k;have s:=yb q;have m:=yb l
   clear k q l
   have n8:f.getD 8 false=false:=by
    rw[yi];intro h6
    have:=A1 hM.down 20 8 7 (by kernel_rfl) h6
    rw[hM.not_yet x] at this;cases this
   have b4:=yb n8
   have W:=yb (H.o.p00 n8)
   have Y:Hid (48 < a.tmps.size):=yb (by rw[hM.tmps,hz];decide)
   clear n8 G A D F C E z y J I K hb
   obtain rfl:=yh L
   go_simp
   have T:Below w'.heap.size w' (w'.alloc (.cells #[.string r1.name,iV r1.n] 23)):=(yg _ _).alloc (ye _) _
   refine ⟨_,rfl,⟨fun _=>⟨W.o.1.up T,fun _=>?_,fun V=>?_⟩,fun M=>?_,fun h=>?_,fun h=>?_,fun h=>?_⟩,trivial,trivial⟩
   ·rw[AQ _ Y.o];exact I5 W.o.1 r1
   ·rw[Aa (by decide)] at V
    rw[Cq _ (by decide)]
    exact (W.o.2.2 V).up T
   ·rw[Aa (by decide),b4.o] at M;cases M
   ·rw[Aa (by decide),r.o] at h;cases h
   ·rw[Aa (by decide),s.o] at h;cases h
   ·rw[Aa (by decide),m.o] at h;cases h
  |8,_=>
   have d:a.tmps[41]?.getD undef=va:=hM.dep x 0 41 (by kernel_rfl) (by kernel_rfl)
   have k:f.getD 17 false=false:=by
    rw[yi];intro h6
    have:=A1 hM.down 20 17 8 (by kernel_rfl) h6
    rw[hM.not_yet x] at this;cases this
   obtain ⟨q,l⟩:=K k
   have hb:=(H.o.below k).1
   have r:=yb k;have s:=yb q;have m:=yb l
   clear k q l
   have n8:=hM.not_yet x
   have l7:f.getD 7 false=true:=hM.came x 7 (by kernel_rfl)
   obtain ⟨U,k2,k3⟩:=H.o.p00 n8
   obtain ⟨g,ak,hg,_,_⟩:=k2 l7
   have HL:Hid (8 < f.size):=yb (by rw[Z];show 8 < 20;omega)
   have Y:Hid (49 < a.tmps.size):=yb (by rw[hM.tmps,hz];decide)
   rw[yG] at ak
   refine Ei base (.tmp 41) (.tmp 48) (by obtain rfl:=yh L;rfl) va la (by simpa[Act.eval] using d) U.a r1 g 1 (by simpa[Act.eval] using ak) hg aw U.size ?_
   intro v' w5 R a0 a2
   obtain rfl:=yh L
   refine ⟨v',rfl,⟨fun M=>?_,fun _ _=>⟨?_,fun V=>?_⟩,fun h=>?_,fun h=>?_,fun h=>?_⟩,trivial,trivial⟩
   ·simp[HL.o] at M
   ·show KY W0 base w5 ((a.put (some 49) v').tmps.getD 49 undef) _ vb lb
    rw[AQ _ Y.o];exact U.putA R a0 a2
   ·rw[Aa (by decide)] at V
    show Fc w5 ((a.put (some 49) v').tmps.getD 49 undef) vb ((a.put (some 49) v').tmps.getD 57 undef) r2
    rw[AQ _ Y.o,Cq _ (by decide)]
    exact (k3 V).grown a0 a2
   ·rw[Aa (by decide),r.o] at h;cases h
   ·rw[Aa (by decide),s.o] at h;cases h
   ·rw[Aa (by decide),m.o] at h;cases h
  |9,_=>
   have d:=hM.old x 5 (by kernel_rfl) _ af
   have k:f.getD 17 false=false:=by
    rw[yi];intro h6
    have:=A1 hM.down 20 17 9 (by kernel_rfl) h6
    rw[hM.not_yet x] at this;cases this
   obtain ⟨q,l⟩:=K k
   have hb:=(H.o.below k).1
   have r:=yb k;have s:=yb q;have m:=yb l
   clear k q l
   have c:=(hb.cell (p:=(aV B5 0)) am).trans A
   clear G A D F C E z y J I K hb
   obtain rfl:=yh L
   go_simp
   exact ⟨_,rfl,H.o.quiet r.o s.o m.o (by decide) (by decide),trivial,rfl⟩
  |10,_=>
   have d:=hM.old x 3 (by kernel_rfl) _ b5
   have k:f.getD 17 false=false:=by
    rw[yi];intro h6
    have:=A1 hM.down 20 17 10 (by kernel_rfl) h6
    rw[hM.not_yet x] at this;cases this
   obtain ⟨q,l⟩:=K k
   have hb:=(H.o.below k).1
   have r:=yb k;have s:=yb q;have m:=yb l
   clear k q l G A D F C E z y J I K hb
   obtain rfl:=yh L
   go_simp
   exact ⟨_,rfl,H.o.quiet r.o s.o m.o (by decide) (by decide),trivial,rfl⟩
  |11,_=>
   have d:a.tmps[51]?.getD undef=pV B3 21:=hM.dep x 10 51 (by kernel_rfl) (by kernel_rfl)
   have k:f.getD 17 false=false:=by
    rw[yi];intro h6
    have:=A1 hM.down 20 17 11 (by kernel_rfl) h6
    rw[hM.not_yet x] at this;cases this
   obtain ⟨q,l⟩:=K k
   have hb:=(H.o.below k).1
   have r:=yb k;have s:=yb q;have m:=yb l
   clear k q l
   have c:=(hb.cell (p:=(aV B3 21)) ax).trans F
   clear G A D F C E z y J I K hb
   obtain rfl:=yh L
   go_simp
   exact ⟨_,rfl,H.o.quiet r.o s.o m.o (by decide) (by decide),trivial,rfl⟩
  |12,_=>
   have d:=hM.old x 8 (by kernel_rfl) _ ag
   have k:f.getD 17 false=false:=by
    rw[yi];intro h6
    have:=A1 hM.down 20 17 12 (by kernel_rfl) h6
    rw[hM.not_yet x] at this;cases this
   obtain ⟨q,l⟩:=K k
   have hb:=(H.o.below k).1
   have r:=yb k;have s:=yb q;have m:=yb l
   clear k q l G A D F C E z y J I K hb
   obtain rfl:=yh L
   go_simp
   exact ⟨_,rfl,H.o.quiet r.o s.o m.o (by decide) (by decide),trivial,rfl⟩
  |13,_=>
   have d1:a.tmps[52]?.getD undef=.slice (some (aV b2 o2)) n2 c2:=hM.dep x 11 52 (by kernel_rfl) (by kernel_rfl)
   have d2:a.tmps[53]?.getD undef=iV i:=hM.dep x 12 53 (by kernel_rfl) (by kernel_rfl)
   have aq:(i:Int) < (n2:Int):=by omega
   have k:f.getD 17 false=false:=by
    rw[yi];intro h6
    have:=A1 hM.down 20 17 13 (by kernel_rfl) h6
    rw[hM.not_yet x] at this;cases this
   obtain ⟨q,l⟩:=K k
   have hb:=(H.o.below k).1
   have r:=yb k;have s:=yb q;have m:=yb l
   clear k q l G A D F C E z y J I K hb
   obtain rfl:=yh L
   go_simp
   exact ⟨_,rfl,H.o.quiet r.o s.o m.o (by decide) (by decide),trivial,rfl⟩
  |14,_=>
   have d:a.tmps[54]?.getD undef=pV b2 (o2+i*51):=hM.dep x 13 54 (by kernel_rfl) (by kernel_rfl)
   have k:f.getD 17 false=false:=by
    rw[yi];intro h6
    have:=A1 hM.down 20 17 14 (by kernel_rfl) h6
    rw[hM.not_yet x] at this;cases this
   obtain ⟨q,l⟩:=K k
   have hb:=(H.o.below k).1
   have r:=yb k;have s:=yb q;have m:=yb l
   clear k q l G A D F C E z y J I K hb
   obtain rfl:=yh L
   go_simp
   exact ⟨_,rfl,H.o.quiet r.o s.o m.o (by decide) (by decide),trivial,rfl⟩
  |15,_=>
   have d:a.tmps[55]?.getD undef=pV b2 (o2+i*51+1):=hM.dep x 14 55 (by kernel_rfl) (by kernel_rfl)
   have k:f.getD 17 false=false:=by
    rw[yi];intro h6
    have:=A1 hM.down 20 17 15 (by kernel_rfl) h6
    rw[hM.not_yet x] at this;cases this
   obtain ⟨q,l⟩:=K k
   have hb:=(H.o.below k).1
   have r:=yb k;have s:=yb q;have m:=yb l
   clear k q l
   have c:=(hb.cell (p:=(aV b2 (o2+i*51+1))) ai).trans E
   have c1:=(hb.cell (p:=(aV b2 (o2+i*51+1+1))) ai).trans y
   clear G A D F C E z y J I K hb
   obtain rfl:=yh L
   go_simp
   exact ⟨_,rfl,H.o.quiet r.o s.o m.o (by decide) (by decide),trivial,rfl⟩
  |16,_=>
   have d:a.tmps[56]?.getD undef=.agg #[.string r2.name,iV r2.n]:=hM.dep x 15 56 (by kernel_rfl) (by kernel_rfl)
   have k:f.getD 17 false=false:=by
    rw[yi];intro h6
    have:=A1 hM.down 20 17 16 (by kernel_rfl) h6
    rw[hM.not_yet x] at this;cases this
   obtain ⟨q,l⟩:=K k
   have hb:=(H.o.below k).1
   have r:=yb k;have s:=yb q;have m:=yb l
   clear k q l
   have Y:Hid (57 < a.tmps.size):=yb (by rw[hM.tmps,hz];decide)
   clear G A D F C E z y J I K hb
   obtain rfl:=yh L
   go_simp
   have T:Below w'.heap.size w' (w'.alloc (.cells #[.string r2.name,iV r2.n] 23)):=(yg _ _).alloc (ye _) _
   refine ⟨_,rfl,⟨fun M=>?_,fun M _=>?_,fun h=>?_,fun h=>?_,fun h=>?_⟩,trivial,trivial⟩
   ·rw[Aa (by decide)] at M
    obtain ⟨U,k2,k3⟩:=H.o.p00 M
    refine ⟨U.up T,fun h7=>?_,fun _=>?_⟩
    ·rw[Aa (by decide)] at h7
     rw[Cq _ (by decide)]
     exact (k2 h7).up T
    ·rw[AQ _ Y.o];exact I5 U r2
   ·rw[Aa (by decide)] at M
    obtain ⟨U,k3⟩:=H.o.p10 M r.o
    rw[Cq _ (by decide),AQ _ Y.o]
    exact ⟨U.up T,fun _=>I5 U r2⟩
   ·rw[Aa (by decide),r.o] at h;cases h
   ·rw[Aa (by decide),s.o] at h;cases h
   ·rw[Aa (by decide),m.o] at h;cases h
  |17,_=>
   have d:a.tmps[50]?.getD undef=vb:=hM.dep x 9 50 (by kernel_rfl) (by kernel_rfl)
   have k:=hM.not_yet x
   obtain ⟨q,l⟩:=K k
   have l8:f.getD 8 false=true:=hM.came x 8 (by kernel_rfl)
   have ay:f.getD 16 false=true:=hM.came x 16 (by kernel_rfl)
   obtain ⟨U,k3⟩:=H.o.p10 l8 k
   obtain ⟨g,ao,hg,_,_⟩:=k3 ay
   have HL:Hid (17 < f.size):=yb (by rw[Z];show 17 < 20;omega)
   have Y:Hid (58 < a.tmps.size):=yb (by rw[hM.tmps,hz];decide)
   rw[yG] at ao
   refine Ei base (.tmp 50) (.tmp 57) (by obtain rfl:=yh L;rfl) vb lb (by simpa[Act.eval] using d) U.b r2 g 1 (by simpa[Act.eval] using ao) hg az U.size ?_
   intro v' w5 R a0 a2
   obtain rfl:=yh L
   refine ⟨v',rfl,⟨fun M=>?_,fun _ O=>?_,fun _ _=>?_,fun h=>?_,fun h=>?_⟩,trivial,trivial⟩
   ·rw[Aa (by decide),l8] at M;cases M
   ·simp[HL.o] at O
   ·show KY W0 base w5 ((a.put (some 58) v').tmps.getD 49 undef) _ ((a.put (some 58) v').tmps.getD 58 undef) _
    rw[AQ _ Y.o,Cq _ (by decide)]
    exact (U.swap.putA R a0 a2).swap
   ·rw[Aa (by decide),q] at h;cases h
   ·rw[Aa (by decide),l] at h;cases h
  |18,_=>
   have d:=hM.old x 4 (by kernel_rfl) _ an
   have N:f.getD 17 false=true:=hM.came x 17 (by kernel_rfl)
   have nk:=hM.not_yet x
   have l:f.getD 19 false=false:=by
    rw[yi];intro h6
    have:=A1 hM.down 20 19 18 (by kernel_rfl) h6
    rw[nk] at this;cases this
   have W:=yb (H.o.p11 N nk)
   have m:=yb l;have X:=yb N
   have hv:∃ad n c,a.tmps[49]?.getD undef=.slice ad n c:=by
    rw[<-yG]
    rcases W.o.a.2 with ⟨e,_⟩|⟨_,_,_,e,_⟩
    ·exact ⟨_,_,_,e⟩
    ·exact ⟨_,_,_,e⟩
   have P:w'.heap[B4]?=W0.heap[B4]?:=W.o.below.block B4 ae
   have l8:f.getD 8 false=true:=A1 hM.down 20 17 8 (by kernel_rfl) N
   have aa:=yb l8
   obtain ⟨ad,nv,cv,dv⟩:=hv
   have HV:=yb dv
   obtain ⟨u0,S⟩:=ac
   have fz:w'.frozen? (aV B4 0)=false:=by unfold World.frozen?;rw[P,S];rfl
   have c2:w'.cell? (aV B4 0)=some u0:=by simp[World.cell?,P,S]
   have HL:Hid (18 < f.size):=yb (by rw[Z];show 18 < 20;omega)
   clear G A D F C E z y J I K P S l8 N
   obtain rfl:=yh L
   go_simp
   refine ⟨undef,rfl,⟨fun M=>?_,fun _ O=>?_,fun _ a1=>?_,fun _ _=>⟨w',W.o,?_⟩,fun h=>?_⟩,trivial,trivial⟩
   ·rw[Aa (by decide),aa.o] at M;cases M
   ·rw[Aa (by decide),X.o] at O;cases O
   ·simp[HL.o] at a1
   ·rw[yG];show w'.setCell _ _=w'.setCell _ (a.tmps[49]?.getD undef);rw[HV.o]
   ·rw[Aa (by decide),m.o] at h;cases h
  |19,_=>
   have d:=hM.old x 5 (by kernel_rfl) _ af
   have a7:f.getD 18 false=true:=hM.came x 18 (by kernel_rfl)
   have N:f.getD 17 false=true:=A1 hM.down 20 18 17 (by kernel_rfl) a7
   have nk:=hM.not_yet x
   obtain ⟨w1,hp,a8⟩:=H.o.p18 a7 nk
   have W:=yb hp;have au:=yb a8;have X:=yb N;have al:=yb a7
   have hv:∃ad n c,a.tmps[58]?.getD undef=.slice ad n c:=by
    rw[<-yG]
    rcases W.o.b.2 with ⟨e,_⟩|⟨_,_,_,e,_⟩
    ·exact ⟨_,_,_,e⟩
    ·exact ⟨_,_,_,e⟩
   have P:w'.heap[B5]?=W0.heap[B5]?:=by
    rw[a8,yY _ _ _ _ (fun e=>ap e.symm)];exact W.o.below.block B5 am
   clear a8 hp
   have l8:f.getD 8 false=true:=A1 hM.down 20 17 8 (by kernel_rfl) N
   have aa:=yb l8
   obtain ⟨ad,nv,cv,dv⟩:=hv
   have HV:=yb dv
   obtain ⟨u0,S⟩:=ab
   have fz:w'.frozen? (aV B5 0)=false:=by unfold World.frozen?;rw[P,S];rfl
   have c2:w'.cell? (aV B5 0)=some u0:=by simp[World.cell?,P,S]
   have HL:Hid (19 < f.size):=yb (by rw[Z];show 19 < 20;omega)
   clear G A D F C E z y J I K P S l8 N
   obtain rfl:=yh L
   go_simp
   refine ⟨undef,rfl,⟨fun M=>?_,fun _ O=>?_,fun _ a1=>?_,fun _ av=>?_,fun _=>⟨w1,_,_,W.o,?_⟩⟩,trivial,trivial⟩
   ·rw[Aa (by decide),aa.o] at M;cases M
   ·rw[Aa (by decide),X.o] at O;cases O
   ·rw[Aa (by decide),al.o] at a1;cases a1
   ·simp[HL.o] at av
   ·rw[<-au.o,yG];show w'.setCell _ _=w'.setCell _ (a.tmps[58]?.getD undef);rw[HV.o]
 ·intro f a w' aj hM
  obtain ⟨w1,v1,v2,hp,rfl⟩:=hM.ext.p19 (aj 19 (show 19 < 20 by omega))
  exact hQ a w1 v1 v2 (hM.tmps.trans hz) hM.defers (EZ (lo:=41) (hi:=58) (by kernel_rfl) hM) hp
def RC(w:World)(h:Av)(l:List Rf):Prop:=h.n=l.length∧l.length<=140737488355328∧∀i (hi:i < l.length),∃b o,h.a=some ⟨b,o,none⟩∧b < w.heap.size∧w.cell? ⟨b,o+i*2,none⟩=some (.string l[i].name)∧w.cell? ⟨b,o+i*2+1,none⟩=some (.int .i64 l[i].n)
theorem OQ{a b:ByteArray}(h:a.toList=b.toList):a=b:=by
 rw[zF,zF] at h
 cases a;cases b;simpa using h
theorem Ku{w:World}{h1 h2:Av}{a b:List Rf}(r1:RC w h1 a)(r2:RC w h2 b):
  Calls Try.prog 64 #[h1.v,h2.v] w fun e w'=>e=.returned (.bool (decide (a=b)))∧Below w.heap.size w w':=by
 obtain ⟨T,n1,c1⟩:=h1
 obtain ⟨U,n2,c2⟩:=h2
 have R1:=yb r1.2.2;have R2:=yb r2.2.2
 have n:=yb r1.1;have r:=yb r2.1
 have L:n1<=140737488355328:=by have:=r1.1;have:=r1.2.1;simp only at*;omega
 have B:n2<=140737488355328:=by have:=r2.1;have:=r2.2.1;simp only at*;omega
 unfold Av.v
 simp only at R1 R2 n r ⊢
 clear r1 r2
 by_cases H:n1=n2
 ·subst H
  have x:((n1:Int) !=(n1:Int))=false:=by simp
  go_enter Try.func64,Try.ntmps64
  go_wp2
  have E:=yb (yg w.heap.size w)
  go_loopw [13] (fun A wr=>∃i:Nat,i<=n1∧A=iV i∧Hid (a.take i=b.take i)∧Hid (Below w.heap.size w wr)) (fun A _=>n1 - (intOf A).toNat)
  case atStart=>exact ⟨0,yz _,rfl,yb (by simp),E⟩
  case round=>
   obtain ⟨i,hi,rfl,K,c⟩:=hrel
   by_cases q:i < n1
   ·have s:(i:Int) < (n1:Int):=by omega
    have d:i < a.length:=by rw[<-n.o];exact q
    have j:i < b.length:=by rw[<-r.o];exact q
    obtain ⟨b1,o1,rfl,k,u,y⟩:=R1.o i d
    obtain ⟨b2,o2,rfl,l,F,z⟩:=R2.o i j
    have m:Hid (a[i]=b[i]->a.take (i+1)=b.take (i+1)):=yb (fun e=>by
     rw[yq d,yq j,K.o,e])
    have f:Hid (a[i]≠b[i]->decide (a=b)=false):=yb (fun e=>xK (fun h=>e (by subst h;rfl)))
    generalize a[i]=N at u y m f
    generalize b[i]=O at F z m f
    obtain ⟨m1,I⟩:=N
    obtain ⟨t,J⟩:=O
    have P:wr.cell? (aV b1 (o1+i*2))=some (.string m1):=(c.o.cell (p:=(aV b1 _)) k).trans u
    have M:wr.cell? (aV b1 (o1+i*2+1))=some (iV I):=(c.o.cell (p:=(aV b1 _)) k).trans y
    have Q:wr.cell? (aV b2 (o2+i*2))=some (.string t):=(c.o.cell (p:=(aV b2 _)) l).trans F
    have S:wr.cell? (aV b2 (o2+i*2+1))=some (iV J):=(c.o.cell (p:=(aV b2 _)) l).trans z
    clear u y F z d j k l
    by_cases D:m1.toList=t.toList
    ·obtain rfl:m1=t:=OQ D
     clear D
     by_cases G:I=J
     ·subst G
      have C:=yb (m.o rfl)
      clear m f
      go_wp2_with fail
      go_region
      go_wp2
      exact ⟨⟨i+1,by omega,by push_cast;rfl,C,yb c.o.drew⟩,by simp[intOf];omega⟩
     ·have g:=yb (f.o (fun h=>G (Rf.mk.inj h).2))
      clear m f
      go_wp2_with fail
      go_region
      go_wp2
      go_ret
      exact ⟨by rw[g.o];rfl,c.o.drew⟩
    ·have g:=yb (f.o (fun h=>D (by rw[(Rf.mk.inj h).1])))
     clear m f
     go_wp2_with fail
     go_region
     go_wp2
     go_ret
     exact ⟨by rw[g.o];rfl,c.o.drew⟩
   ·obtain rfl:i=n1:=by omega
    have s:decide ((i:Int) < (i:Int))=false:=by simp
    go_wp2
    go_ret
    have R:a=b:=by
     have h1:=K.o
     rw[n.o,yw,<-n.o,r.o,yw] at h1
     exact h1
    exact ⟨by rw[decide_eq_true R];rfl,c.o⟩
 ·have x:((n1:Int) !=(n2:Int))=true:=by simp;omega
  go_enter Try.func64,Try.ntmps64
  go_wp2
  go_ret
  exact ⟨by rw[xK (fun h=>H (by rw[n.o,r.o,h]))];rfl,yg _ _⟩
structure Dj (W0:World) (Bx:Nat) (l:List Rf) (O:Nat->Prop) (V:World):Prop where
 grown:W0.grownBy V (some Bx)
 ownO:∀b,O b->W0.heap.size<=b
 row:∃v,V.heap[Bx]?=some (.cells #[v] 127 (0,0))∧CE W0.heap.size V v l∧∀g,v.ownBlock=some g->¬ O g
section
variable{W0 V w1:World}{Bx:Nat}{l:List Rf}{O:NP}
theorem Dj.stays(u:Bx < W0.heap.size)(f:Nat->List Rf):Dp (fun k=>Dj W0 Bx (f k)):=by
 intro k O W t W' h p s r q d o
 obtain ⟨v,r1,r2,n⟩:=h.row
 have c:=h.grown.size
 have e:W'.heap[Bx]?=W.heap[Bx]?:=d Bx (fun hb=>by have:=h.ownO Bx hb;omega) (by omega)
 refine ⟨⟨s.trans h.grown.os,r.trans h.grown.tape,q.trans h.grown.output,yr c p,fun b hb i=>(d b (fun m=>by have:=h.ownO b m;omega) (by omega)).trans (h.grown.block b hb i)⟩,fun b hb=>?_,v,e.trans r1,r2.up (fun g a j=>d g (n g a) j),fun g a l=>?_⟩
 ·rcases o b hb with h1|h1
  ·exact h.ownO b h1
  ·omega
 ·rcases o g l with h1|h1
  ·exact n g a h1
  ·have:=(r2.lt a).2;omega
theorem Dj.same(h:Dj W0 Bx l O V){b:Nat}(hb:b < W0.heap.size)(a:b≠Bx):V.heap[b]?=W0.heap[b]?:=h.grown.block b hb (fun e=>a (yh e))
theorem Dj.start(W0:World)(hb:W0.heap[Bx]?=some (.cells #[.slice none 0 0] 127 (0,0))):Dj W0 Bx [] (fun _=>False) W0:=
 ⟨⟨rfl,rfl,rfl,ye _,fun _ _ _=>rfl⟩,fun _ h=>h.elim,_,hb,Qi _ _,fun g a=>by cases a⟩
theorem Dj.put(h:Dj W0 Bx l O V)(y:Bx < W0.heap.size)(q:∀b,O b->b < V.heap.size){va v:Value}{r:Rf}(o:V.cell? ⟨Bx,0,none⟩=some va)(d:Rz V W0.heap.size va l r w1 v):Dj W0 Bx (l++[r]) O (w1.setCell ⟨Bx,0,none⟩ v)∧Bv O V (w1.setCell ⟨Bx,0,none⟩ v):=by
 obtain ⟨v0,r1,r2,p⟩:=h.row
 obtain rfl:va=v0:=by
  have e:V.cell? (aV Bx 0)=some v0:=by simp[World.cell?,r1]
  rw[o] at e;exact yh e
 have j:∀g,va.ownBlock=some g->W0.heap.size<=g:=fun g i=>(r2.lt i).1
 have m:w1.heap[Bx]?=V.heap[Bx]?:=d.grown.block Bx (by have:=h.grown.size;omega) (fun e=>by have:=j _ e.symm;omega)
 have w:=h.grown.size
 have t:=d.grown.size
 have f:∀b,b≠Bx->(w1.setCell (aV Bx 0) v).heap[b]?=w1.heap[b]?:=fun b c=>yY _ _ _ _ c
 have a:∀b,b≠Bx->b < V.heap.size->va.ownBlock≠some b->(w1.setCell (aV Bx 0) v).heap[b]?=V.heap[b]?:=fun b c n s=>(f b c).trans (d.grown.block b n (fun e=>s e.symm))
 refine ⟨⟨⟨d.grown.os.trans h.grown.os,d.grown.tape.trans h.grown.tape,d.grown.output.trans h.grown.output,by simp;omega,fun b hb c=>?_⟩,h.ownO,v,?_,d.own.up (fun g i _=>f g (fun e=>by have:=(d.own.lt i).1;omega)),fun g i k=>?_⟩,by simp;omega,fun b hb=>?_⟩
 ·rw[a b (fun e=>c (by rw[e])) (by omega) (fun e=>by have:=j _ e;omega)]
  exact h.grown.block b hb c
 ·have:=za w1 Bx 0 #[va] 127 v (m.trans r1)
  rw[this];rfl
 ·rcases d.blk with e|⟨x,e,u⟩
  ·rw[e] at i;exact p g i k
  ·rw[e] at i;cases i
   have:=q g k;omega
 ·exact a b (fun e=>by have:=h.ownO b hb;omega) (q b hb) (fun e=>p b e hb)
end
section
variable{f:Int->Ex->Ex}{g:Int->Rf->Rf}
def PA(f:Int->Ex->Ex)(e:KK):KK:=(f e.2 e.1,e.2)
theorem BB{α β:Type}(F:Nat->α->β)(l:List α):(l.mapIdx F).zipIdx=l.zipIdx.map fun p=>(F p.2 p.1,p.2):=by
 apply zM
 ·simp
 ·intro i h1 h2;simp
theorem RD(l:List Dx):J7 (l.mapIdx (Dx.mp f))=(J7 l).map (PA f):=by
 unfold J7;rw[BB,xf,xg];rfl
theorem Qj(l:List BY):GM (l.mapIdx (BY.mp f))=(GM l).map (PA f):=by
 unfold GM;rw[BB,xf,xg];rfl
theorem NF(l:List Ax):Eo (l.mapIdx (Ax.mp f g))=(Eo l).map (PA f):=by
 unfold Eo;rw[BB,xf,xg];rfl
theorem Qk(l:List BL):GN (l.mapIdx (BL.mp f g))=(GN l).map (PA f):=by
 unfold GN;rw[BB,xf,xg];rfl
theorem Ql(l:List Bt):DL (l.mapIdx (Bt.mp f g))=(DL l).map (PA f):=by
 unfold DL;rw[BB,xf,xg];rfl
theorem RE(l:List B7):Ia (l.mapIdx (B7.mp f g))=(Ia l).map (PA f):=by
 unfold Ia;rw[BB,xf,xg]
 congr 1
 funext p
 rw[zb,<-Ql (g:=g)]
 rfl
theorem OR(l:List AG):Fm (l.mapIdx (AG.mp f g))=(Fm l).map (PA f):=by
 unfold Fm;rw[BB,xf,xg];rfl
theorem OS(l:List Ce):Fo (l.mapIdx (Ce.mp f g))=(Fo l).map (PA f):=by
 unfold Fo;rw[BB,xf,xg];rfl
theorem JG(x:An):AL (x.mp f g)=(AL x).map (PA f):=by
 unfold AL An.mp
 simp only[zb,<-RD,<-Qj,<-NF (g:=g),<-Qk (g:=g),<-RE (g:=g),<-OR (g:=g),<-OS (g:=g)]
 rfl
theorem DC{α β:Type}{F:Nat->α->β}{l:List α}{p:β->Bool}{q:α->Bool}(h:l.all q=true)(a:∀i d,q d=true->p (F i d)=true):(l.mapIdx F).all p=true:=by
 rw[yL] at h ⊢
 intro b hb
 obtain ⟨i,hi,rfl⟩:=zg.1 hb
 rw[zZ]
 exact a i _ (h _ (yy _))
end
section
variable{t:Tb}
theorem GX(l:List Ex):(Eu t l).length=l.length:=by rw[Mf];simp
mutual
theorem Kv:∀e:Ex,AR (G0 t e)=AR e
 |.mk op n u rn ri args=>by rw[G0,AR,AR,Kw args]
theorem Kw:∀l:List Ex,Bm (Eu t l)=Bm l
 |[]=>rfl
 |e::r=>by rw[Eu,Bm,Bm,Kv e,Kw r]
end
theorem LF(e:Ex):D8 (G0 t e)=D8 e:=by
 cases e with
 |mk op n u rn ri args=>
  rw[G0]
  unfold D8 FQ
  simp only[Ex.op,Ex.n,Ex.u,Ex.rn,Ex.ri,Ex.args,GX]
  by_cases h:op=2
  ·subst h;simp
  ·rw[yu h];rfl
theorem Gr{to at_:Int}{r:Rf}(h:Jj t to at_ r=true):Jj t to at_ (gT t to r)=true:=by
 unfold gT
 by_cases h0:to=0
 ·rw[yx h0];exact h
 ·rw[yu h0]
  unfold Jj at h ⊢
  rw[yu h0] at h ⊢
  exact h
theorem U4{to at_:Int}{rn:ByteArray}{ri rj:Int}(h0:to≠0):Jj t to at_ ⟨rn,ri⟩=Jj t to at_ ⟨rn,rj⟩:=by
 unfold Jj;rw[yu h0,yu h0]
mutual
theorem PB(lt:Int):∀e:Ex,Sg t lt (G0 t e)=Sg t lt e
 |.mk op n u rn ri args=>by
  rw[G0,Sg,Sg,GX,PC lt args]
  by_cases h:op=2
  ·rw[yx h,U4 (rj:=ri) (by unfold KL;rw[yx h];split<;>decide)]
  ·rw[yu h]
theorem PC(lt:Int):∀l:List Ex,Ri t lt (Eu t l)=Ri t lt l
 |[]=>rfl
 |e::r=>by rw[Eu,Ri,Ri,PB lt e,PC lt r]
end
theorem Sz(e:KK):Kh t (PA (fT t) e)=Kh t e:=by
 unfold Kh PA fT
 simp only
 by_cases h:D8 e.1=true
 ·simp[h]
 ·rw[yu h,LF,PB]
theorem NG(lt:Int)(e:Ex):AR (fT t lt e)=AR e:=by
 unfold fT;split
 ·rfl
 ·exact Kv e
theorem IU{x:An}(h:CK t x=true):CK t (x.mp (fT t) (gT t))=true:=by
 unfold CK at h ⊢
 simp only[yt] at h ⊢
 obtain ⟨h1,h2,h3,h4,h5,h6⟩:=h
 refine ⟨?_,?_,?_,?_,?_,?_⟩
 ·rw[JG,List.all_map]
  rw[yL] at h1 ⊢
  intro e a
  have:=h1 e a
  simp only[Function.comp,Sz];exact this
 ·unfold Ci at h2 ⊢
  exact DC h2 fun _ _ h=>h
 ·refine DC h3 fun i d h=>?_
  unfold Mg at h ⊢
  simp only[yt] at h ⊢
  exact ⟨Gr h.1,Gr h.2⟩
 ·refine DC h4 fun i d h=>?_
  unfold Pm at h ⊢
  simp only[yt] at h ⊢
  exact ⟨Gr h.1,DC h.2 fun _ _ h=>Gr h⟩
 ·refine DC h5 fun i d h=>?_
  unfold JC at h ⊢
  simp only[yt] at h ⊢
  exact ⟨Gr h.1,Gr h.2⟩
 ·refine DC h6 fun i d h=>?_
  unfold Mh at h ⊢
  simp only[yt] at h ⊢
  exact ⟨Gr h.1,Gr h.2⟩
theorem Mq{x:An}(h:Bq x=true):Bq (x.mp (fT t) (gT t))=true:=by
 unfold Bq at h ⊢
 simp only[yt] at h ⊢
 obtain ⟨h1,h2,h3⟩:=h
 refine ⟨?_,?_,?_⟩
 ·unfold JX at h1 ⊢
  simpa[An.mp] using h1
 ·unfold FU at h2 ⊢
  refine DC h2 fun i d h=>?_
  simpa[B7.mp] using h
 ·unfold EI at h3 ⊢
  rw[JG,List.all_map]
  rw[yL] at h3 ⊢
  intro e a
  simpa[PA,NG] using h3 e a
end
theorem Ed{x:An}(h:Au x=0):Bq x=true∧Cu x=true∧EJ x∧CC (Tb.of x) x=true∧CK (Tb.of x) x=true:=by
 unfold Au at h
 by_cases h1:Bq x=true
 ·rw[yx h1] at h
  by_cases h2:Cu x=true
  ·rw[yx h2] at h
   by_cases h3:EJ x
   ·rw[yx h3] at h
    by_cases h4:(CC (Tb.of x) x&&CK (Tb.of x) x)=true
    ·rw[yt] at h4;exact ⟨h1,h2,h3,h4⟩
    ·rw[yu h4] at h;cases h
   ·rw[yu h3] at h;cases h
  ·rw[yu h2] at h;cases h
 ·rw[yu h1] at h;cases h
theorem GY(x:An):(A8 x).reaches.length=x.reaches.length:=by unfold A8 An.mp;simp
structure D0 (W:World) (s top:Nat) (x:An) (L:Bh) (cs:List Value) (N:Nat->Prop):Prop where
 src:B8 N W L cs x
 at0:L.s=s
 range:W.rangeAt s 0 cs
 lt:∀b,T9 N s b->b < top
section
variable{W W':World}{s top:Nat}{x:An}{L:Bh}{cs:LV}{N:NP}
theorem D0.up(h:D0 W s top x L cs N)(hb:∀b,b < top->W'.heap[b]?=W.heap[b]?):D0 W' s top x L cs N:=
 ⟨h.src.same (fun _ h=>h) (fun b hN=>hb b (h.lt b (.inr hN))),h.at0,A2 h.range (hb s (h.lt s (.inl rfl))),h.lt⟩
theorem D0.head(h:D0 W s top x L cs N):W.cell? ⟨s,21,none⟩=some (.slice L.reaches.a L.reaches.n L.reaches.c):=by
 have:=h.range 21 _ h.src.at.reaches
 rw[yA] at this;exact this
theorem D0.frm(h:D0 W s top x L cs N){i:Nat}(hi:i < x.reaches.length):∃b o,L.reaches.a=some ⟨b,o,none⟩∧b < top∧W.cell? ⟨b,o+i*51+1,none⟩=some (.string x.reaches[i].frm.name)∧W.cell? ⟨b,o+i*51+1+1,none⟩=some (.int .i64 x.reaches[i].frm.n):=by
 obtain ⟨b,o,c,g1,e,j,d,_,_,c0,c1,c2,k,m,f,l,g,rfl,_⟩:=h.src.reaches.2.2 i hi
 exact ⟨b,o,g1,h.lt b (.inr e),d 1 _ rfl,d 2 _ rfl⟩
end
structure PD (Q:Exit->Act->World->Prop) (w:World) (x:An):Prop where
 early:∀(c:Int) tm W,tm.getD 2 undef=.int .i64 c->Below w.heap.size w W->Dg x=c->Q .ret {tmps:=tm,defers:=[]} W
 done:∀(c:Int) D1 D2 tm W,tm.getD 2 undef=.int .i64 c->Below w.heap.size w W->Dg x=c->D1≠D2->w.heap.size<=D1->w.heap.size<=D2->W.heap[D1]?=some (.deferred (some []))->W.heap[D2]?=some (.deferred (some []))->Q .ret {tmps:=tm,defers:=[Jk D2,Jk D1]} W
theorem RF(w:World)(x:An):PD (bodyPostM Fence.wide 10 Try.prog Try.f14 (fun e w'=>e=.returned (.int .i64 (Dg x))∧Below w.heap.size w w')) w x:=by
 have a:∀(tm:Array Value) (c:Int) (W:World),tm.getD 2 undef=.int .i64 c->(results Try.f14 tm).run Try.prog W=.ok (.int .i64 c) W:=fun tm c W h=>by
  rw[yG] at h
  simp[results,Try.results14,h]
 refine ⟨fun c tm W h2 hb hc=>?_,fun c D1 j tm W h2 hb hc d h1 i f g=>?_⟩
 ·subst hc
  exact ⟨_,a tm _ W h2,rfl,hb⟩
 ·subst hc
  have e1:(W.putObj j (.deferred none)).heap[D1]?=some (.deferred (some [])):=(World.putObj_heap_other d).trans f
  refine ⟨by simp,.inl ⟨_,_,rfl,run_takeDeferred g,⟨by simp,.inl ⟨_,_,rfl,run_takeDeferred e1,⟨_,a tm _ _ h2,rfl,hb.trans ⟨rfl,rfl,rfl,by simp,fun b hb=>?_⟩⟩⟩⟩⟩⟩
  rw[World.putObj_heap_other (by omega),World.putObj_heap_other (by omega)]
structure Ey (V:World) (base B4 B5:Nat) (la lb:List Rf) (wr:World):Prop where
 os:wr.os=V.os
 tape:wr.tape=V.tape
 output:wr.output=V.output
 size:V.heap.size<=wr.heap.size
 low:base<=V.heap.size
 keep:∀(k:Nat) (o:Obj),k≠B4->k≠B5->V.heap[k]?=some o->(∀c f,o≠Obj.cells c 23 f)->wr.heap[k]?=some o
 block:∀b,b < base->b≠B4->b≠B5->wr.heap[b]?=V.heap[b]?
 rows:∃va vb,wr.heap[B4]?=some (.cells #[va] 127 (0,0))∧wr.heap[B5]?=some (.cells #[vb] 127 (0,0))∧KY wr base wr va la vb lb
theorem Ey.put{V wr w1:World}{base B4 B5:Nat}{la lb:List Rf}(h:Ey V base B4 B5 la lb wr)(h4:B4 < base)(h5:B5 < base)(p:B4≠B5){f j:Value}{r1 r2:Rf}(c:KY wr base w1 f (la++[r1]) j (lb++[r2])):Ey V base B4 B5 (la++[r1]) (lb++[r2]) ((w1.setCell ⟨B4,0,none⟩ f).setCell ⟨B5,0,none⟩ j):=by
 obtain ⟨va,vb,t,w,z⟩:=h.rows
 have y:w1.heap[B4]?=some (.cells #[va] 127 (0,0)):=(c.below.block B4 h4).trans t
 have u:w1.heap[B5]?=some (.cells #[vb] 127 (0,0)):=(c.below.block B5 h5).trans w
 have d:∀b,b≠B4->b≠B5->((w1.setCell ⟨B4,0,none⟩ f).setCell ⟨B5,0,none⟩ j).heap[b]?=w1.heap[b]?:=fun b i m=>(yY _ _ _ _ m).trans (yY _ _ _ _ i)
 have s:∀ {v:Value} {l:List Rf},CE base w1 v l->CE base ((w1.setCell ⟨B4,0,none⟩ f).setCell ⟨B5,0,none⟩ j) v l:=fun q=>q.up (fun g x _=>by
  have:=(q.lt x).1
  exact d g (by omega) (by omega))
 have n:((w1.setCell ⟨B4,0,none⟩ f).setCell ⟨B5,0,none⟩ j).heap.size=w1.heap.size:=by simp
 refine ⟨c.below.os.trans h.os,c.below.tape.trans h.tape,c.below.output.trans h.output,by rw[n];exact yr h.size c.below.size,h.low,fun k o i m q r=>(d k i m).trans (c.keep k o (h.keep k o i m q r) r),fun b hb i m=>?_,f,j,?_,?_,yg _ _,by rw[n];exact c.size,s c.a,s c.b,c.apart,fun _ _ h _=>h⟩
 ·rw[d b i m,c.below.block b hb];exact h.block b hb i m
 ·rw[yY _ _ _ _ p,za w1 B4 0 #[va] 127 f y];rfl
 ·have e:(w1.setCell ⟨B4,0,none⟩ f).heap[B5]?=some (.cells #[vb] 127 (0,0)):=(yY _ _ _ _ (fun e=>p e.symm)).trans u
  rw[za (w1.setCell ⟨B4,0,none⟩ f) B5 0 #[vb] 127 j e];rfl
theorem Ey.drew{V wr:World}{base B4 B5:Nat}{la lb:List Rf}(h:Ey V base B4 B5 la lb wr):Ey V base B4 B5 la lb wr.drew:=by
 obtain ⟨va,vb,e,d,c⟩:=h.rows
 exact ⟨h.os,h.tape,h.output,h.size,h.low,h.keep,h.block,va,vb,e,d,yg _ _,c.size,c.a,c.b,c.apart,fun _ _ h _=>h⟩
theorem CE.rf{B:Nat}{w:World}{v:Value}{l:List Rf}(h:CE B w v l)(hl:l.length<=1000000000):∃h:Av,v=h.v∧RC w h l:=by
 obtain ⟨h1,⟨rfl,h2⟩|⟨g,cap,c,rfl,h4,h5,h6,o,m,k⟩⟩:=h
 ·obtain rfl:=z6.1 h2
  exact ⟨⟨none,0,0⟩,rfl,rfl,by simp,fun i hi=>absurd hi (by simp)⟩
 ·have hc:∀j u,(l.flatMap Ah)[j]?=some u->w.cell? ⟨g,j,none⟩=some u:=by
   intro j u a
   rw[<-k] at a
   have b:=(yD.1 a).1
   rw[yM] at b
   rw[zH,yx (by omega)] at a
   simp only[World.cell?,h5]
   simpa using a
  have f:∀(l:List Rf) (i:Nat) (hi:i < l.length),(l.flatMap Ah)[i*2]?=some (.string l[i].name)∧(l.flatMap Ah)[i*2+1]?=some (.int .i64 l[i].n):=by
   intro l
   induction l with
   |nil=>intro i hi;simp at hi
   |cons x r ih=>
    intro i hi
    cases i with
    |zero=>exact ⟨rfl,rfl⟩
    |succ i=>
     have:=ih i (by simpa using hi)
     have e:((x::r).flatMap Ah)=Ah x++r.flatMap Ah:=rfl
     rw[e,yS (by simp[Ah];omega),yS (by simp[Ah];omega)]
     have hl:(Ah x).length=2:=rfl
     rw[hl,show (i+1)*2 - 2=i*2 by omega,show (i+1)*2+1 - 2=i*2+1 by omega]
     exact this
  refine ⟨⟨some ⟨g,0,none⟩,l.length,cap⟩,rfl,rfl,by omega,fun i hi=>?_⟩
  obtain ⟨d,g1⟩:=f l i hi
  refine ⟨g,0,rfl,(yf.1 h5).1,?_,?_⟩
  ·rw[yA];exact hc _ _ d
  ·rw[yA];exact hc _ _ g1
theorem Hk{α:Type}{l:List α}{i:Nat}{a:α}(h:l[i]?=some a):l.take i++[a]=l.take (i+1):=by
 rw[List.take_add_one,h];rfl
theorem U5{Q:QT}{w V:World}{x:An}{L1 L2:Bh}{ap al:LV}{N1 N2:NP}{base B3 B4 B5 D1 D:Nat}(hQ:PD Q w x)(hw:Au x=0)
 (h1:D0 V w.heap.size B4 x L1 ap N1)(h2:D0 V B3 B4 (A8 x) L2 al N2)(a7:B4 < B5)(h5:B5 < base)(hb:Below w.heap.size w V)(hL:Ey V base B4 B5 (AX x) (AX (A8 x)) V)
 (hD:D1≠D∧w.heap.size<=D1∧w.heap.size<=D)(p:V.heap[D1]?=some (.deferred (some [])))(m:V.heap[D]?=some (.deferred (some [])))(F:(Da x).length<=900000000)(s:(Da (A8 x)).length<=900000000)
 (u0 u6 u7 u8 u9 u10 u11 u12 u13 u14 u15 u16 u17 u18 u19 u20 u21 u22 u23 u24 u25 u26 u27 u28 u29 u30 u31 u32 u33 u34 u35 u36 u37 u38 u39 u40 u41 u42 u43 u44 u45 u46 u47 u48 u49 u50 u51 u52 u53 u54 u55 u56 u57 u58 u59 u60 u61 u62 u63:Value):
  Gf 14 Try.prog (CP 6 (Try.f14.body.getD .skip)) Q {tmps:=#[u0,.pointer (some ⟨w.heap.size,0,none⟩),.int .i64 0,.pointer (some ⟨B3,0,none⟩),.pointer (some ⟨B4,0,none⟩),.pointer (some ⟨B5,0,none⟩),u6,u7,u8,u9,u10,u11,u12,u13,u14,u15,u16,u17,u18,u19,u20,u21,u22,u23,u24,u25,u26,u27,u28,u29,u30,u31,u32,u33,u34,u35,u36,u37,u38,u39,u40,u41,u42,u43,u44,u45,u46,u47,u48,u49,u50,u51,u52,u53,u54,u55,u56,u57,u58,u59,u60,u61,u62,u63],defers:=[Jk D,Jk D1]} V:=by
 have I:w.heap.size < B4:=h1.lt _ (.inl rfl)
 have H:B3 < B4:=h2.lt _ (.inl rfl)
 have E:=hL.low
 have l:Hid (∀la lb wr,Ey V base B4 B5 la lb wr->∀b,b < B4->wr.heap[b]?=V.heap[b]?):=yb (fun la lb wr h b hb=>h.block b (by omega) (by omega) (by omega))
 have g:Hid (∀la lb wr,Ey V base B4 B5 la lb wr->wr.heap[D1]?=some (.deferred (some []))∧wr.heap[D]?=some (.deferred (some []))):=yb (fun la lb wr h=>by
  obtain ⟨va,vb,r4,r5,_⟩:=hL.rows
  exact ⟨h.keep D1 _ (fun e=>by rw[e,r4] at p;cases p) (fun e=>by rw[e,r5] at p;cases p) p (fun _ _ e=>by cases e),h.keep D _ (fun e=>by rw[e,r4] at m;cases m) (fun e=>by rw[e,r5] at m;cases m) m (fun _ _ e=>by cases e)⟩)
 have C:Hid (∀la lb wr,Ey V base B4 B5 la lb wr->Below w.heap.size w wr):=yb (fun la lb wr h=>hb.trans ⟨h.os,h.tape,h.output,h.size,fun b N=>h.block b (by omega) (by omega) (by omega)⟩)
 have hc:=h1.head
 have S:=yb h2.head
 have L:Hid (∀i (hi:i < x.reaches.length),∃b o,L1.reaches.a=some ⟨b,o,none⟩∧b < B4∧V.cell? ⟨b,o+i*51+1,none⟩=some (.string x.reaches[i].frm.name)∧V.cell? ⟨b,o+i*51+1+1,none⟩=some (.int .i64 x.reaches[i].frm.n)):=yb (fun i hi=>h1.frm hi)
 have U:Hid (∀i (hi:i < (A8 x).reaches.length),∃b o,L2.reaches.a=some ⟨b,o,none⟩∧b < B4∧V.cell? ⟨b,o+i*51+1,none⟩=some (.string (A8 x).reaches[i].frm.name)∧V.cell? ⟨b,o+i*51+1+1,none⟩=some (.int .i64 (A8 x).reaches[i].frm.n)):=yb (fun i hi=>h2.frm hi)
 have u:Hid (L1.reaches.n=x.reaches.length):=yb h1.src.reaches.1
 have P:Hid (L2.reaches.n=x.reaches.length):=yb (h2.src.reaches.1.trans (GY x))
 have J:L1.reaches.n<=140737488355328:=by rw[u.o];exact h1.src.reaches.2.1
 have T:=yb hc
 have HQ:=yb hQ
 have c:Hid (w.heap.size < B4∧B3 < B4∧B4 < B5∧B5 < base∧base<=V.heap.size):=yb ⟨I,H,a7,h5,E⟩
 have Y:=yb hD
 have G:=yb F;have r:=yb s
 have HC:Hid (Dg x=if Da x=Da (A8 x) then 0 else 170):=yb (by unfold Dg;rw[yx hw])
 have a0:Hid (Ey V base B4 B5 (AX x++(x.reaches.map fun d:Ax=>d.frm).take 0) (AX (A8 x)++((A8 x).reaches.map fun d:Ax=>d.frm).take 0) V):=yb (by rw[zG,zG,zn,zn];exact hL)
 generalize L1.reaches=am at hc L u J T
 obtain ⟨ra,rn,rc⟩:=am
 generalize L2.reaches=an at S U P
 obtain ⟨M,aa,ai⟩:=an
 simp only at hc L u J T S U P
 clear hQ hw h1 h2 a7 h5 hb hL hD p m F s I H E
 unfold Jk
 refine Ad (A6 ?_)
 go_wp2
 clear hc
 go_loopw [38] (fun iv wr=>∃i:Nat,iv=.int .i64 i∧i<=rn∧Hid (Ey V base B4 B5 (AX x++(x.reaches.map fun d:Ax=>d.frm).take i) (AX (A8 x)++((A8 x).reaches.map fun d:Ax=>d.frm).take i) wr)) (fun iv _=>rn - (intOf iv).toNat)
 case atStart=>exact ⟨0,rfl,yz _,a0⟩
 case round=>
  clear a0
  obtain ⟨i,rfl,hi,A⟩:=hrel
  by_cases N:i < rn
  ·have aj:(i:Int) < (rn:Int):=by omega
   have z:i < x.reaches.length:=by rw[<-u.o];exact N
   have O:i < (A8 x).reaches.length:=by rw[GY];exact z
   obtain ⟨b1,o1,rfl,g1,x1,y1⟩:=L.o i z
   obtain ⟨b2,o2,rfl,g2,x2,y2⟩:=U.o i O
   have ab:(x.reaches.map fun d:Ax=>d.frm)[i]?=some x.reaches[i].frm:=by simp[z]
   have ae:((A8 x).reaches.map fun d:Ax=>d.frm)[i]?=some (A8 x).reaches[i].frm:=by simp[O]
   have j:Hid (∀wr,Ey V base B4 B5 ((AX x++(x.reaches.map fun d:Ax=>d.frm).take i)++[x.reaches[i].frm]) ((AX (A8 x)++((A8 x).reaches.map fun d:Ax=>d.frm).take i)++[(A8 x).reaches[i].frm]) wr->Ey V base B4 B5 (AX x++(x.reaches.map fun d:Ax=>d.frm).take (i+1)) (AX (A8 x)++((A8 x).reaches.map fun d:Ax=>d.frm).take (i+1)) wr):=yb (fun wr h=>by
    rw[yl,yl] at h
    rw[Hk ab,Hk ae] at h
    exact h)
   have au:Hid ((AX x++(x.reaches.map fun d:Ax=>d.frm).take i).length+1<=1000000000):=yb (by
    have:=G.o
    unfold Da at this
    simp only[ym,yM,yP] at this ⊢
    omega)
   have ak:Hid ((AX (A8 x)++((A8 x).reaches.map fun d:Ax=>d.frm).take i).length+1<=1000000000):=yb (by
    have:=r.o
    unfold Da at this
    simp only[ym,yM,yP] at this ⊢
    omega)
   generalize x.reaches[i].frm=r1 at x1 y1 j
   generalize (A8 x).reaches[i].frm=r2 at x2 y2 j
   obtain ⟨va,vb,q4,q5,W⟩:=A.o.rows
   have HT:=yb W;have ad:=yb q4;have Z:=yb q5
   have aq:Hid (wr.cell? ⟨b1,o1+i*51+1,none⟩=some (.string r1.name)):=yb ((Ac (l.o _ _ _ A.o b1 g1)).trans x1)
   have ah:Hid (wr.cell? ⟨b1,o1+i*51+1+1,none⟩=some (.int .i64 r1.n)):=yb ((Ac (l.o _ _ _ A.o b1 g1)).trans y1)
   have ag:Hid (wr.cell? ⟨b2,o2+i*51+1,none⟩=some (.string r2.name)):=yb ((Ac (l.o _ _ _ A.o b2 g2)).trans x2)
   have ar:Hid (wr.cell? ⟨b2,o2+i*51+1+1,none⟩=some (.int .i64 r2.n)):=yb ((Ac (l.o _ _ _ A.o b2 g2)).trans y2)
   have HG:Hid (b1 < B4∧b2 < B4∧i < rn∧i < aa):=yb ⟨g1,g2,N,by rw[P.o];exact z⟩
   clear z O x1 y1 x2 y2 ab ae q4 q5 W g1 g2
   go_wp2_with fail
   refine U3 (base:=base) (B:=w.heap.size) (B3:=B3) (B4:=B4) (B5:=B5) (b1:=b1) (o1:=o1) (n1:=rn) (c1:=rc) (b2:=b2) (o2:=o2) (n2:=aa) (c2:=ai) (i:=i) (va:=va) (vb:=vb) (la:=AX x++(x.reaches.map fun d:Ax=>d.frm).take i) (lb:=AX (A8 x)++((A8 x).reaches.map fun d:Ax=>d.frm).take i) (r1:=r1) (r2:=r2) _ ?_ ?_ ?_ ?_ ?_ ?_ ?_ ?_ ?_ ?_ ?_ ?_ ?_ ?_ ?_ ?_ ?_ ?_ ?_ ?_ ?_ ?_ ?_ ?_ ?_ ?_ ?_ ?_ ?_ ?_
   ·rfl
   ·rfl
   ·rfl
   ·rfl
   ·rfl
   ·rfl
   ·rfl
   ·have:=c.o;omega
   ·have:=c.o;omega
   ·have:=c.o;omega
   ·have:=c.o;omega
   ·have:=c.o;have:=HG.o;omega
   ·have:=c.o;have:=HG.o;omega
   ·have:=c.o;omega
   ·exact HG.o.2.2.1
   ·exact HG.o.2.2.2
   ·exact ⟨_,ad.o⟩
   ·exact ⟨_,Z.o⟩
   ·simp[World.cell?,ad.o]
   ·simp[World.cell?,Z.o]
   ·exact (Ac (l.o _ _ _ A.o _ c.o.1)).trans T.o
   ·exact (Ac (l.o _ _ _ A.o _ c.o.2.1)).trans S.o
   ·exact aq.o
   ·exact ah.o
   ·exact ag.o
   ·exact ar.o
   ·exact HT.o
   ·exact au.o
   ·exact ak.o
   ·intro a w1 v1 v2 a6 ac af hp
    have ao:=yb (j.o _ (A.o.put (by have:=c.o;omega) c.o.2.2.2.1 (by have:=c.o;omega) hp))
    obtain ⟨v41,v42,v43,v44,v45,v46,v47,v48,v49,v50,v51,v52,v53,v54,v55,v56,v57,v58,rfl⟩:∃v41 v42 v43 v44 v45 v46 v47 v48 v49 v50 v51 v52 v53 v54 v55 v56 v57 v58:Value,a={tmps:=#[u0,.pointer (some ⟨w.heap.size,0,none⟩),.int .i64 0,.pointer (some ⟨B3,0,none⟩),.pointer (some ⟨B4,0,none⟩),.pointer (some ⟨B5,0,none⟩),u6,u7,.int .i64 i,u9,u10,u11,u12,u13,u14,u15,u16,u17,u18,u19,u20,u21,u22,u23,u24,u25,u26,u27,u28,u29,u30,u31,u32,u33,u34,.pointer (some ⟨w.heap.size,21,none⟩),.slice (some ⟨b1,o1,none⟩) rn rc,.int .i64 rn,.int .i64 i,.bool true,.int .i64 i,v41,v42,v43,v44,v45,v46,v47,v48,v49,v50,v51,v52,v53,v54,v55,v56,v57,v58,u59,u60,u61,u62,u63],defers:=[Jk D,Jk D1]}:=by
     refine ⟨a.tmps.getD 41 undef,a.tmps.getD 42 undef,a.tmps.getD 43 undef,a.tmps.getD 44 undef,a.tmps.getD 45 undef,a.tmps.getD 46 undef,a.tmps.getD 47 undef,a.tmps.getD 48 undef,a.tmps.getD 49 undef,a.tmps.getD 50 undef,a.tmps.getD 51 undef,a.tmps.getD 52 undef,a.tmps.getD 53 undef,a.tmps.getD 54 undef,a.tmps.getD 55 undef,a.tmps.getD 56 undef,a.tmps.getD 57 undef,a.tmps.getD 58 undef,(JE [41,42,43,44,45,46,47,48,49,50,51,52,53,54,55,56,57,58] (a6.trans rfl) ac (fun t ht=>af t ?_)).trans (by kernel_rfl)⟩
     simp at ht;omega
    clear a6 ac af hp
    unfold Jk
    go_wp2
    exact ⟨⟨i+1,by push_cast;rfl,by omega,ao⟩,by simp[intOf];omega⟩
  ·obtain rfl:i=rn:=by omega
   have aj:decide ((i:Int) < (i:Int))=false:=by simp
   have f:Hid (Ey V base B4 B5 (Da x) (Da (A8 x)) wr):=yb (by
    have h:=A.o
    rw[u.o] at h
    have e1:(x.reaches.map fun d:Ax=>d.frm).take x.reaches.length=x.reaches.map fun d:Ax=>d.frm:=by
     rw[xN (by simp)]
    have e2:((A8 x).reaches.map fun d:Ax=>d.frm).take x.reaches.length=(A8 x).reaches.map fun d:Ax=>d.frm:=by
     rw[xN (by rw[yP,GY];exact ye _)]
    rw[e1,e2] at h
    exact h)
   obtain ⟨va,vb,q4,q5,W⟩:=f.o.rows
   obtain ⟨⟨a1,n1,k1⟩,ea,a8⟩:=W.a.rf (by have:=G.o;omega)
   obtain ⟨⟨a2,n2,k2⟩,eb,M⟩:=W.b.rf (by have:=r.o;omega)
   unfold Av.v at ea eb
   simp only at ea eb
   subst ea eb
   have RA:=yb a8;have RB:=yb M
   have c4:wr.cell? ⟨B4,0,none⟩=some (.slice a1 n1 k1):=by simp[World.cell?,q4]
   have c5:wr.cell? ⟨B5,0,none⟩=some (.slice a2 n2 k2):=by simp[World.cell?,q5]
   clear q4 q5 W a8 M A
   go_wp2
   by_cases X:Da x=Da (A8 x)
   ·have R:Hid (decide (Da x=Da (A8 x))=true):=yb (decide_eq_true X)
    have K:Hid (Dg x=0):=yb (by rw[HC.o,yx X])
    clear X
    refine Ad (A6 ?_)
    go_wp2_with (first|(go_at_call 64;refine (Ku (h1:=⟨a1,n1,k1⟩) (h2:=⟨a2,n2,k2⟩) RA.o RB.o).mono ?_;rintro e w5 ⟨y,q⟩;rw[R.o] at y;subst y;have k:=yb q;clear q))
    refine A6 ?_
    go_wp2
    exact HQ.o.done 0 D1 D _ _ rfl ((C.o _ _ _ f.o).trans (k.o.mono (C.o _ _ _ f.o).size)) K.o Y.o.1 Y.o.2.1 Y.o.2.2 ((k.o.block _ (yf.1 (g.o _ _ _ f.o).1).1).trans (g.o _ _ _ f.o).1) ((k.o.block _ (yf.1 (g.o _ _ _ f.o).2).1).trans (g.o _ _ _ f.o).2)
   ·have R:Hid (decide (Da x=Da (A8 x))=false):=yb (xK X)
    have K:Hid (Dg x=170):=yb (by rw[HC.o,yu X])
    clear X
    refine Ad (A6 ?_)
    go_wp2_with (first|(go_at_call 64;refine (Ku (h1:=⟨a1,n1,k1⟩) (h2:=⟨a2,n2,k2⟩) RA.o RB.o).mono ?_;rintro e w5 ⟨y,q⟩;rw[R.o] at y;subst y;have k:=yb q;clear q))
    exact HQ.o.done 170 D1 D _ _ rfl ((C.o _ _ _ f.o).trans (k.o.mono (C.o _ _ _ f.o).size)) K.o Y.o.1 Y.o.2.1 Y.o.2.2 ((k.o.block _ (yf.1 (g.o _ _ _ f.o).1).1).trans (g.o _ _ _ f.o).1) ((k.o.block _ (yf.1 (g.o _ _ _ f.o).2).1).trans (g.o _ _ _ f.o).2)
end Go.Proofs.Ytghepahgkcigpaa
namespace Go.Proofs.Ytghepahgkcigpaa
open Go.RowKit
attribute [local go_sem] Oper.semAt_some
theorem CE.low{B b:Nat}{w:World}{v:Value}{l:List Rf}(h:CE B w v l)(hb:b<=B):CE b w v l:=by
 obtain ⟨h1,h2⟩:=h
 refine ⟨h1,h2.imp id ?_⟩
 rintro ⟨g,cap,a,e,h4,h5⟩
 exact ⟨g,cap,a,e,by omega,h5⟩
theorem Dj.below{W0 V V':World}{Bx:Nat}{l:List Rf}{O:NP}(h:Dj W0 Bx l O V)(hb:Below V.heap.size V V'):Dj W0 Bx l O V':=by
 obtain ⟨v,r1,r2,d⟩:=h.row
 exact ⟨⟨hb.os.trans h.grown.os,hb.tape.trans h.grown.tape,hb.output.trans h.grown.output,yr h.grown.size hb.size,fun b a c=>(hb.block b (yp a h.grown.size)).trans (h.grown.block b a c)⟩,h.ownO,v,(hb.block _ (yf.1 r1).1).trans r1,r2.up (fun g _ a=>hb.block g a),d⟩
theorem U6{Q:QT}{w V:World}{x:An}{L1 L2:Bh}{d8 cy:LV}{N1 N2:NP}{base B3 B4 B5 D1:Nat}(hQ:PD Q w x)(hw:Au x=0)
 (h1:D0 V w.heap.size B4 x L1 d8 N1)(h2:D0 V B3 B4 (A8 x) L2 cy N2)(N:B4 < B5)(h5:B5 < base)(hb:Below w.heap.size w V)(E:base<=V.heap.size)
 (bd:∃va,V.heap[B4]?=some (.cells #[va] 127 (0,0))∧CE base V va (AX x))(t:V.heap[B5]?=some (.cells #[.slice none 0 0] 127 (0,0)))
 (P:w.heap.size<=D1)(m:V.heap[D1]?=some (.deferred (some [])))(p:(Da x).length<=900000000)(i:(Da (A8 x)).length<=900000000)
 (u0 u6 u7 u8 u9 cm be ct aw cn ak ae c3 bs ci bn ba bp c4 al cf cv cu cg af bk co c6 ca cq bg b8 ap bt cc ar am bv b7 ax bh az cd ay av ah c5 bi bu bb cr c9 ck b5 cp b3 aj ai ag:Value):
  Gf 14 Try.prog (CP 5 (Try.f14.body.getD .skip)) Q {tmps:=#[u0,.pointer (some ⟨w.heap.size,0,none⟩),.int .i64 0,.pointer (some ⟨B3,0,none⟩),.pointer (some ⟨B4,0,none⟩),.pointer (some ⟨B5,0,none⟩),u6,u7,u8,u9,cm,be,ct,aw,cn,ak,ae,c3,bs,ci,bn,ba,bp,c4,al,cf,cv,cu,cg,af,bk,co,c6,ca,cq,bg,b8,ap,bt,cc,ar,am,bv,b7,ax,bh,az,cd,ay,av,ah,c5,bi,bu,bb,cr,c9,ck,b5,cp,b3,aj,ai,ag],defers:=[Jk D1]} V:=by
 obtain ⟨x0,z⟩:∃x0:An,x0=A8 x:=⟨_,rfl⟩
 obtain ⟨L,cs,NN,W⟩:∃L cs NN,D0 V B3 B4 x0 L cs NN:=by rw[z];exact ⟨_,_,_,h2⟩
 have X:Bq x0=true:=by rw[z];exact Mq (Ed hw).1
 have bm:CK (Tb.of x) x0=true:=by rw[z];exact IU (Ed hw).2.2.2.2
 have bo:(AX x0).length<=900000000:=by
  rw[z];have:=i;unfold Da at this;rw[ym] at this;omega
 have au:B3 < B4:=W.lt _ (.inl rfl)
 obtain ⟨W5,H⟩:∃W5,W5=(V.alloc (.cells #[pV B3 0] 52)):=⟨_,rfl⟩
 have j:Below V.heap.size V W5:=by rw[H];exact (yg _ _).alloc (ye _) _
 have a2:W5.heap.size=V.heap.size+1:=by rw[H];simp
 have S:D0 W5 B3 B4 x0 L cs NN:=W.up (fun b hb=>j.block b (by omega))
 have cj:W5.cell? (aV V.heap.size 0)=some (pV L.s 0):=by
  rw[W.at0,H]
  have h:=World.alloc_heap_new V (.cells #[pV B3 0] 52)
  simp only[World.cell?,h]
  rfl
 have a6:W5.rangeAt L.s 0 cs:=by rw[W.at0];exact S.range
 have hU:=NB S.src a6 cj X
 obtain ⟨hR,hM⟩:=LD S.src a6
 have a8:(Ca W5 L x0).2=true:=((G2 (Tb.of x) hU).2 bm).1
 have a0:=hM a8
 have b4:(Ca W5 L x0).1.length=(AX x0).length:=by rw[<-a0,yP]
 have bq:∀k O U,Dj W5 B5 ((AX x0).take k) O U->∀b,(T9 NN L.s b∨b=V.heap.size)->U.heap[b]?=W5.heap[b]?:=fun k O U h b hb=>by
  rcases hb with hb|rfl
  ·rw[W.at0] at hb
   have:=W.lt b hb
   exact h.same (by omega) (by omega)
  ·exact h.same (by omega) (by omega)
 have HU:=yb hU;have HR:=yb hR;have HM:=yb a0;have dc:=yb b4;have cb:=yb bq;have da:=yb a8;have bz:=yb a2;have d3:=yb j
 have HP:=yb W;have d2:=yb bo
 have ao:Hid (B5 < V.heap.size∧∃u:Value,W5.heap[B5]?=some (.cells #[u] 127 (0,0))):=yb ⟨by omega,by
  rw[j.block _ (by omega)];exact ⟨_,t⟩⟩
 have q:Hid (B5 < W5.heap.size):=yb (by omega)
 have d4:Hid (Dj W5 B5 ((AX x0).take 0) (fun _=>False) W5):=yb (by
  rw[zG]
  exact Dj.start W5 (by rw[j.block _ (by omega)];exact t))
 have d9:=yb H;have cx:=yb z;have de:=yb au
 have Y:=yb (And.intro hQ (And.intro hw (And.intro h1 (And.intro h2 (And.intro N (And.intro h5 (And.intro hb E)))))))
 have ac:=yb (And.intro bd (And.intro t (And.intro P m)))
 have Z:=yb (And.intro p i)
 clear H hQ hw h1 h2 N h5 hb E X bm bo au j a2 S cj a6 hU hR hM a0 a8 b4 bq W z p i bd t P m
 unfold Jk
 refine Ad (Ad (A6 ?_))
 go_wp2_with (first|(go_at_call 51;refine (Kl _ _).mono ?_;rintro e w2 ⟨rfl,rfl⟩))
 rw[<-d9.o]
 refine E5 ?_
 refine DD (n:=10) Try.func14 rfl (fun _ _=>rfl) (JZ 9 (by omega) HU.o) (fun a ha=>by
   obtain ⟨u,_,rfl⟩:=zw.1 ha
   rfl)
  (fun k O U=>Dj W5 B5 ((AX x0).take k) O U) (fun _ _ _=>False) (fun _ _ _=>False)
  (fun k a O U=>Dj W5 B5 ((AX x0).take k) O U∧∃(ub uo:Nat) (d c:Int) (f:ByteArray) (C:Int) (g:Nat),(Ca W5 L x0).1[k]?=some ⟨ub,uo,d,c,f,C⟩∧¬ O g∧g < U.heap.size∧U.heap[g]?=some (.cells #[pV ub uo,iV d,iV c] 106 (0,0))∧a={tmps:=#[u0,pV w.heap.size 0,iV 0,pV B3 0,pV B4 0,pV B5 0,u6,pV g 0,u8,u9,cm,be,ct,aw,cn,ak,ae,c3,bs,ci,bn,ba,bp,c4,al,cf,.func (.func 81) #[] #[pV V.heap.size 0],.agg #[pV ub uo,iV d,iV c],cg,af,bk,co,c6,ca,cq,bg,b8,ap,bt,cc,ar,am,bv,b7,ax,bh,az,cd,ay,av,ah,c5,bi,bu,bb,cr,c9,ck,b5,cp,b3,aj,ai,ag],defers:=[]})
  (Dj.stays (W0:=W5) q.o (fun k=>(AX x0).take k)) (fun _ _ _ _ _ _ h=>h.elim) (fun _ _ _ _ _ _ h=>h.elim) ?_ (fun k O U h=>Nz (cb.o k O U h)) (fun _ _ _ h=>h.elim) ?_ d4.o ?_ ?_ ?_ (fun _ _ _ _ _ _ h=>h.elim) (fun _ _ _ _ _ _ h=>h.elim)
 ·rintro a k O U O' U' ⟨h1,ub,uo,d,c,f,C,g,h2,h3,h4,h5,h6⟩ hz ho ht hu T hO
  exact ⟨Dj.stays (W0:=W5) q.o (fun k=>(AX x0).take k) k O U O' U' h1 hz ho ht hu T hO,ub,uo,d,c,f,C,g,h2,fun h=>(hO g h).elim h3 (fun h=>by omega),by omega,(T g h3 h4).trans h5,h6⟩
 ·intro ch he O U J
  rw[da.o] at he
  cases he
 ·intro k T O U lo J hO hl G
  have c7:k < (Ca W5 L x0).1.length:=by rw[yP] at T;exact T
  rw[zS]
  have R:=yb (yk c7)
  generalize (Ca W5 L x0).1[k]=u at R ⊢
  obtain ⟨ub,uo,d,c,f,C⟩:=u
  have HJ:=yb J;have M:=yb G
  clear J hO hl G T c7
  unfold Us.v
  simp only
  gi_wp2
  have a7:Bv O U (U.alloc (.cells #[pV ub uo,iV d,iV c] 106)):=⟨by simp,fun b hb=>yQ _ _ _ (M.o b hb)⟩
  have I:Dj W5 B5 ((AX x0).take k) O (U.alloc (.cells #[pV ub uo,iV d,iV c] 106)):=HJ.o.below ((yg U.heap.size U).alloc (ye _) _)
  have K:¬ O U.heap.size:=fun h=>xA _ (M.o _ h)
  first
  |exact ⟨a7,I,ub,uo,d,c,f,C,U.heap.size,R.o,K,by simp,World.alloc_heap_new _ _,rfl⟩
  |(rename_i hK;exact hK _ _ ⟨a7,I,ub,uo,d,c,f,C,U.heap.size,R.o,K,by simp,World.alloc_heap_new _ _,rfl⟩)
  |(rename_i hK _;exact hK _ _ ⟨a7,I,ub,uo,d,c,f,C,U.heap.size,R.o,K,by simp,World.alloc_heap_new _ _,rfl⟩)
  |fail
 ·rintro k T O U lo a1 hl ad G ⟨J,ub,uo,d,c,f,C,g,hu,db,cl,bw,rfl⟩
  have l:=HR.o _ (xq hu)
  have ab:=cb.o k O U J ub (.inl l.inS)
  have b9:(AX x0)[k]?=some (⟨f,C⟩:Rf):=by
   rw[<-HM.o,xQ,hu];rfl
  obtain ⟨va,r1,r2,r3⟩:=J.row
  have HJ:=yb J
  have d5:Hid (∀U',Dj W5 B5 ((AX x0).take k++[⟨f,C⟩]) O U'->Dj W5 B5 ((AX x0).take (k+1)) O U'):=yb (fun U' h=>by rw[Hk b9] at h;exact h)
  have cw:Hid (((AX x0).take k).length+1<=1000000000):=yb (by
   have:=d2.o
   rw[yM];omega)
  have aq:Hid (U.cell? (aV B5 0)=some va):=yb (by simp[World.cell?,r1])
  have an:Hid (∃u,U.heap[B5]?=some (.cells #[u] 127 (0,0))):=yb ⟨_,r1⟩
  have bj:=yb r2
  have ce:Hid (U.cell? (aV g 0)=some (pV ub uo)):=yb (by simp[World.cell?,bw])
  have cz:Hid (U.cell? (aV ub uo)=some (.string f)):=yb ((Ac ab).trans l.name)
  have d7:Hid (U.cell? (aV ub (uo+1))=some (iV C)):=yb ((Ac ab).trans l.n)
  have F:Hid (B5 < W5.heap.size∧W5.heap.size<=U.heap.size∧g < U.heap.size∧ub < W5.heap.size):=yb ⟨q.o,J.grown.size,cl,by
   have h1:=l.inS
   rw[HP.o.at0] at h1
   have:=HP.o.lt ub h1
   have:=ao.o.1
   have:=bz.o
   have:=Y.o.2.2.2.2.1
   simp only at*
   omega⟩
  have M:=yb G
  clear l ab b9 r1 r2 r3 J hu db cl bw hl ad T G
  gi_wp2_with fail
  refine U1 (W0:=U) (Bx:=B5) (b6:=g) (ub:=ub) (uo:=uo) (base:=W5.heap.size) (va:=va) (ls:=(AX x0).take k) (r:=⟨f,C⟩) _ ?_ ?_ ?_ ?_ ?_ ?_ ?_ ?_ ?_ ?_ ?_ ?_ ?_ ?_ ?_ ?_ ?_
  ·rfl
  ·rfl
  ·rfl
  ·rfl
  ·have:=F.o;omega
  ·have:=F.o;omega
  ·have:=F.o;omega
  ·exact an.o
  ·exact aq.o
  ·exact ce.o
  ·exact cz.o
  ·exact d7.o
  ·exact bj.o
  ·exact cw.o
  ·exact F.o.2.1
  ·exact F.o.1
  ·intro a w1 v _ _ _ hp
   have h:=HJ.o.put q.o M.o aq.o hp
   exact ⟨h.2,d5.o _ h.1⟩
 ·intro _ D O U hD di J d0
  obtain ⟨hQ,hw,h1,h2,N,h5,hb,E⟩:=Y.o
  obtain ⟨p,i⟩:=Z.o
  have a2:=bz.o
  have j:=d3.o
  have df:=de.o
  have dg:=ao.o.1
  have A:Dj W5 B5 (AX (A8 x)) O U:=by
   have h:=J
   rw[yP,dc.o,yw,cx.o] at h
   exact h
  obtain ⟨v2,q1,q2,q3⟩:=A.row
  have B:∀b,b < V.heap.size->b≠B5->U.heap[b]?=V.heap[b]?:=fun b y aa=>(A.same (by omega) aa).trans (j.block b y)
  have dh:=A.grown.size
  have d6:Below w.heap.size w U:=hb.trans ⟨A.grown.os.trans j.os,A.grown.tape.trans j.tape,A.grown.output.trans j.output,by omega,fun b y=>B b (by have:=hb.size;omega) (by have:=h1.lt _ (.inl rfl);omega)⟩
  have d1:=h1.up (fun b y=>B b (by omega) (by omega))
  have dd:=h2.up (fun b y=>B b (by omega) (by omega))
  obtain ⟨⟨va,p1,p2⟩,t,P,m⟩:=ac.o
  have aa:D1≠B5:=fun e=>by rw[e,t] at m;cases m
  have c8:=(yf.1 m).1
  have hL:Ey U base B4 B5 (AX x) (AX (A8 x)) U:=⟨rfl,rfl,rfl,ye _,by omega,fun _ _ _ _ h _=>h,fun _ _ _ _=>rfl,va,v2,(B B4 (by omega) (by omega)).trans p1,q1,yg _ _,by omega,p2.up (fun g hg y=>B g y (by have:=(p2.lt hg).1;omega)),q2.low (by omega),fun g e1 e2=>by have:=(p2.lt e1).2;have:=(q2.lt e2).1;omega,fun _ _ h _=>h⟩
  exact U5 (base:=base) hQ hw d1 dd N h5 d6 hL ⟨by omega,P,by have:=hb.size;omega⟩ ((B D1 c8 aa).trans m) d0 p i _ _ _ _ _ _ _ _ _ _ _ _ _ _ _ _ _ _ _ _ _ _ _ _ _ _ _ _ _ _ _ _ _ _ _ _ _ _ _ _ _ _ _ _ _ _ _ _ _ _ _ _ _ _ _ _ _ _ _
theorem U7{Q:QT}{w V:World}{x:An}{L1 L2:Bh}{d5 ct:LV}{N1 N2:NP}{base B3 B4 B5:Nat}(hQ:PD Q w x)(hw:Au x=0)
 (h1:D0 V w.heap.size B4 x L1 d5 N1)(h2:D0 V B3 B4 (A8 x) L2 ct N2)(K:B4 < B5)(h5:B5 < base)(hb:Below w.heap.size w V)(A:base<=V.heap.size)
 (bd:∃u:Value,V.heap[B4]?=some (.cells #[u] 127 (0,0)))(p:V.heap[B4]?=some (.cells #[.slice none 0 0] 127 (0,0)))(I:V.heap[B5]?=some (.cells #[.slice none 0 0] 127 (0,0)))
 (l:(Da x).length<=900000000)(j:(Da (A8 x)).length<=900000000)
 (u0 u6 u7 u8 u9 cj bg cp aw ck ai ac d2 d0 ce bn ba bp bz aj cc au al cd ad bk cl c4 c7 cn be b8 ao bs c9 aq ak bu b7 ax bh az ca ay av af c3 bi bt bb co c6 cg b5 cm b3 ah ag ae:Value):
  Gf 14 Try.prog (CP 4 (Try.f14.body.getD .skip)) Q {tmps:=#[u0,.pointer (some ⟨w.heap.size,0,none⟩),.int .i64 0,.pointer (some ⟨B3,0,none⟩),.pointer (some ⟨B4,0,none⟩),.pointer (some ⟨B5,0,none⟩),u6,u7,u8,u9,cj,bg,cp,aw,ck,ai,ac,d2,d0,ce,bn,ba,bp,bz,aj,cc,au,al,cd,ad,bk,cl,c4,c7,cn,be,b8,ao,bs,c9,aq,ak,bu,b7,ax,bh,az,ca,ay,av,af,c3,bi,bt,bb,co,c6,cg,b5,cm,b3,ah,ag,ae],defers:=[]} V:=by
 obtain ⟨x0,t⟩:∃x0:An,x0=x:=⟨_,rfl⟩
 obtain ⟨L,cs,NN,T⟩:∃L cs NN,D0 V w.heap.size B4 x0 L cs NN:=by rw[t];exact ⟨_,_,_,h1⟩
 have W:Bq x0=true:=by rw[t];exact (Ed hw).1
 have bm:CK (Tb.of x) x0=true:=by rw[t];exact (Ed hw).2.2.2.2
 have bo:(AX x0).length<=900000000:=by
  rw[t];have:=l;unfold Da at this;rw[ym] at this;omega
 have ar:w.heap.size < B4:=T.lt _ (.inl rfl)
 obtain ⟨W5,E⟩:∃W5,W5=(V.alloc (.cells #[pV w.heap.size 0] 52)):=⟨_,rfl⟩
 have i:Below V.heap.size V W5:=by rw[E];exact (yg _ _).alloc (ye _) _
 have a0:W5.heap.size=V.heap.size+1:=by rw[E];simp
 have R:D0 W5 w.heap.size B4 x0 L cs NN:=T.up (fun b hb=>i.block b (by omega))
 have cf:W5.cell? (aV V.heap.size 0)=some (pV L.s 0):=by
  rw[T.at0,E]
  have h:=World.alloc_heap_new V (.cells #[pV w.heap.size 0] 52)
  simp only[World.cell?,h]
  rfl
 have a2:W5.rangeAt L.s 0 cs:=by rw[T.at0];exact R.range
 have hU:=NB R.src a2 cf W
 obtain ⟨hR,hM⟩:=LD R.src a2
 have a7:(Ca W5 L x0).2=true:=((G2 (Tb.of x) hU).2 bm).1
 have Z:=hM a7
 have b4:(Ca W5 L x0).1.length=(AX x0).length:=by rw[<-Z,yP]
 have bq:∀k O U,Dj W5 B4 ((AX x0).take k) O U->∀b,(T9 NN L.s b∨b=V.heap.size)->U.heap[b]?=W5.heap[b]?:=fun k O U h b hb=>by
  rcases hb with hb|rfl
  ·rw[T.at0] at hb
   have:=T.lt b hb
   exact h.same (by omega) (by omega)
  ·exact h.same (by omega) (by omega)
 have HU:=yb hU;have HR:=yb hR;have HM:=yb Z;have d9:=yb b4;have c8:=yb bq;have d7:=yb a7;have bw:=yb a0;have cy:=yb i
 have HP:=yb T;have cx:=yb bo
 have an:Hid (B4 < V.heap.size∧∃u:Value,W5.heap[B4]?=some (.cells #[u] 127 (0,0))):=yb ⟨by omega,by
  rw[i.block _ (by omega)];exact bd⟩
 have q:Hid (B4 < W5.heap.size):=yb (by omega)
 have cz:Hid (Dj W5 B4 ((AX x0).take 0) (fun _=>False) W5):=yb (by
  rw[zG]
  exact Dj.start W5 (by rw[i.block _ (by omega)];exact p))
 have d6:=yb E;have cr:=yb t;have dc:=yb ar
 have X:=yb (And.intro hQ (And.intro hw (And.intro h1 (And.intro h2 (And.intro K (And.intro h5 (And.intro hb A)))))))
 have aa:=yb (And.intro p I)
 have Y:=yb (And.intro l j)
 clear E hQ hw h1 h2 K h5 hb A W bm bo ar i a0 R cf a2 hU hR hM Z a7 b4 bq T t l j bd p I
 refine Ad (Ad (A6 ?_))
 go_wp2_with (first|(go_at_call 51;refine (Kl _ _).mono ?_;rintro e w2 ⟨rfl,rfl⟩))
 rw[<-d6.o]
 refine E5 ?_
 refine DD (n:=10) Try.func14 rfl (fun _ _=>rfl) (JZ 9 (by omega) HU.o) (fun a ha=>by
   obtain ⟨u,_,rfl⟩:=zw.1 ha
   rfl)
  (fun k O U=>Dj W5 B4 ((AX x0).take k) O U) (fun _ _ _=>False) (fun _ _ _=>False)
  (fun k a O U=>Dj W5 B4 ((AX x0).take k) O U∧∃(ub uo:Nat) (d c:Int) (f:ByteArray) (z:Int) (g:Nat),(Ca W5 L x0).1[k]?=some ⟨ub,uo,d,c,f,z⟩∧¬ O g∧g < U.heap.size∧U.heap[g]?=some (.cells #[pV ub uo,iV d,iV c] 106 (0,0))∧a={tmps:=#[u0,pV w.heap.size 0,iV 0,pV B3 0,pV B4 0,pV B5 0,pV g 0,u7,u8,u9,cj,bg,cp,aw,ck,ai,ac,.func (.func 81) #[] #[pV V.heap.size 0],.agg #[pV ub uo,iV d,iV c],ce,bn,ba,bp,bz,aj,cc,au,al,cd,ad,bk,cl,c4,c7,cn,be,b8,ao,bs,c9,aq,ak,bu,b7,ax,bh,az,ca,ay,av,af,c3,bi,bt,bb,co,c6,cg,b5,cm,b3,ah,ag,ae],defers:=[]})
  (Dj.stays (W0:=W5) q.o (fun k=>(AX x0).take k)) (fun _ _ _ _ _ _ h=>h.elim) (fun _ _ _ _ _ _ h=>h.elim) ?_ (fun k O U h=>Nz (c8.o k O U h)) (fun _ _ _ h=>h.elim) ?_ cz.o ?_ ?_ ?_ (fun _ _ _ _ _ _ h=>h.elim) (fun _ _ _ _ _ _ h=>h.elim)
 ·rintro a k O U O' U' ⟨h1,ub,uo,d,c,f,z,g,h2,h3,h4,h5,h6⟩ hz ho ht hu S hO
  exact ⟨Dj.stays (W0:=W5) q.o (fun k=>(AX x0).take k) k O U O' U' h1 hz ho ht hu S hO,ub,uo,d,c,f,z,g,h2,fun h=>(hO g h).elim h3 (fun h=>by omega),by omega,(S g h3 h4).trans h5,h6⟩
 ·intro ch he O U G
  rw[d7.o] at he
  cases he
 ·intro k S O U lo G hO hl C
  have c5:k < (Ca W5 L x0).1.length:=by rw[yP] at S;exact S
  rw[zS]
  have N:=yb (yk c5)
  generalize (Ca W5 L x0).1[k]=u at N ⊢
  obtain ⟨ub,uo,d,c,f,z⟩:=u
  have HJ:=yb G;have J:=yb C
  clear G hO hl C S c5
  unfold Us.v
  simp only
  gi_wp2
  have a6:Bv O U (U.alloc (.cells #[pV ub uo,iV d,iV c] 106)):=⟨by simp,fun b hb=>yQ _ _ _ (J.o b hb)⟩
  have F:Dj W5 B4 ((AX x0).take k) O (U.alloc (.cells #[pV ub uo,iV d,iV c] 106)):=HJ.o.below ((yg U.heap.size U).alloc (ye _) _)
  have H:¬ O U.heap.size:=fun h=>xA _ (J.o _ h)
  first
  |exact ⟨a6,F,ub,uo,d,c,f,z,U.heap.size,N.o,H,by simp,World.alloc_heap_new _ _,rfl⟩
  |(rename_i hK;exact hK _ _ ⟨a6,F,ub,uo,d,c,f,z,U.heap.size,N.o,H,by simp,World.alloc_heap_new _ _,rfl⟩)
  |(rename_i hK _;exact hK _ _ ⟨a6,F,ub,uo,d,c,f,z,U.heap.size,N.o,H,by simp,World.alloc_heap_new _ _,rfl⟩)
  |fail
 ·rintro k S O U lo a1 hl ab C ⟨G,ub,uo,d,c,f,z,g,hu,d8,ci,bv,rfl⟩
  have m:=HR.o _ (xq hu)
  have a8:=c8.o k O U G ub (.inl m.inS)
  have b9:(AX x0)[k]?=some (⟨f,z⟩:Rf):=by
   rw[<-HM.o,xQ,hu];rfl
  obtain ⟨va,r1,r2,r3⟩:=G.row
  have HJ:=yb G
  have d1:Hid (∀U',Dj W5 B4 ((AX x0).take k++[⟨f,z⟩]) O U'->Dj W5 B4 ((AX x0).take (k+1)) O U'):=yb (fun U' h=>by rw[Hk b9] at h;exact h)
  have cq:Hid (((AX x0).take k).length+1<=1000000000):=yb (by
   have:=cx.o
   rw[yM];omega)
  have ap:Hid (U.cell? (aV B4 0)=some va):=yb (by simp[World.cell?,r1])
  have am:Hid (∃u,U.heap[B4]?=some (.cells #[u] 127 (0,0))):=yb ⟨_,r1⟩
  have bj:=yb r2
  have cb:Hid (U.cell? (aV g 0)=some (pV ub uo)):=yb (by simp[World.cell?,bv])
  have cu:Hid (U.cell? (aV ub uo)=some (.string f)):=yb ((Ac a8).trans m.name)
  have d4:Hid (U.cell? (aV ub (uo+1))=some (iV z)):=yb ((Ac a8).trans m.n)
  have B:Hid (B4 < W5.heap.size∧W5.heap.size<=U.heap.size∧g < U.heap.size∧ub < W5.heap.size):=yb ⟨q.o,G.grown.size,ci,by
   have h1:=m.inS
   rw[HP.o.at0] at h1
   have:=HP.o.lt ub h1
   have:=an.o.1
   have:=bw.o
   have:=X.o.2.2.2.2.1
   simp only at*
   omega⟩
  have J:=yb C
  clear m a8 b9 r1 r2 r3 G hu d8 ci bv hl ab S C
  gi_wp2_with fail
  refine Ur (W0:=U) (Bx:=B4) (b6:=g) (ub:=ub) (uo:=uo) (base:=W5.heap.size) (va:=va) (ls:=(AX x0).take k) (r:=⟨f,z⟩) _ ?_ ?_ ?_ ?_ ?_ ?_ ?_ ?_ ?_ ?_ ?_ ?_ ?_ ?_ ?_ ?_ ?_
  ·rfl
  ·rfl
  ·rfl
  ·rfl
  ·have:=B.o;omega
  ·have:=B.o;omega
  ·have:=B.o;omega
  ·exact am.o
  ·exact ap.o
  ·exact cb.o
  ·exact cu.o
  ·exact d4.o
  ·exact bj.o
  ·exact cq.o
  ·exact B.o.2.1
  ·exact B.o.1
  ·intro a w1 v _ _ _ hp
   have h:=HJ.o.put q.o J.o ap.o hp
   exact ⟨h.2,d1.o _ h.1⟩
 ·intro _ D O U hD dg G cv
  obtain ⟨hQ,hw,h1,h2,K,h5,hb,A⟩:=X.o
  obtain ⟨l,j⟩:=Y.o
  have a0:=bw.o
  have i:=cy.o
  have dd:=dc.o
  have de:=an.o.1
  have y:Dj W5 B4 (AX (x)) O U:=by
   have h:=G
   rw[yP,d9.o,yw,cr.o] at h
   exact h
  obtain ⟨v2,q1,q2,q3⟩:=y.row
  have P:∀b,b < V.heap.size->b≠B4->U.heap[b]?=V.heap[b]?:=fun b M da=>(y.same (by omega) da).trans (i.block b M)
  have df:=y.grown.size
  have d3:Below w.heap.size w U:=hb.trans ⟨y.grown.os.trans i.os,y.grown.tape.trans i.tape,y.grown.output.trans i.output,by omega,fun b M=>P b (by have:=hb.size;omega) (by have:=h1.lt _ (.inl rfl);omega)⟩
  have cw:=h1.up (fun b M=>P b (by omega) (by omega))
  have db:=h2.up (fun b M=>P b (by omega) (by omega))
  obtain ⟨p,I⟩:=aa.o
  exact U6 (base:=base) (D1:=D) hQ hw cw db K h5 d3 (by omega) ⟨v2,q1,q2.low (by omega)⟩ ((P B5 (by omega) (by omega)).trans I) (by have:=hb.size;omega) cv l j _ _ _ _ _ _ _ _ _ _ _ _ _ _ _ _ _ _ _ _ _ _ _ _ _ _ _ _ _ _ _ _ _ _ _ _ _ _ _ _ _ _ _ _ _ _ _ _ _ _ _ _ _ _ _ _ _ _ _
end Go.Proofs.Ytghepahgkcigpaa
namespace Go.Proofs.Ytghepahgkcigpaa
open Go.RowKit
theorem AH{α β:Type}{f:α->List β}{c:Nat}:∀ {l:List α},(∀a∈l,(f a).length<=c)->(l.flatMap f).length<=l.length*c
 |[],_=>by simp
 |a::l,h=>by
  rw[zp,ym,yE,Nat.succ_mul]
  have:=h a (by simp)
  have:=AH (l:=l) (fun b hb=>h b (by simp[hb]))
  omega
theorem Ez{α β:Type}{f:α × Nat->List β}{c:Nat}{l:List α}(h:∀a∈l,∀i,(f (a,i)).length<=c):(l.zipIdx.flatMap f).length<=l.length*c:=by
 have:=AH (l:=l.zipIdx) (f:=f) (c:=c) (fun p b=>by
  obtain ⟨a,i⟩:=p
  obtain ⟨_,h2,h3⟩:=List.mem_zipIdx (x:=a) (i:=i) b
  exact h a (h3▸yy _) i)
 rwa [zA] at this
section
variable{t:Tb}
mutual
theorem NH(lt:Int):∀e:Ex,Sg t lt e=true->(Ly e).length+1<=2 ^ (AR e+1)
 |.mk op n u rn ri args,h=>by
  rw[Sg,yt,yt] at h
  obtain ⟨h1,_,h3⟩:=h
  have ih:=LG lt args h3
  rw[Ly,AR,yE]
  unfold MJ at h1
  simp only[yt,yW] at h1
  obtain ⟨_,_,h2⟩:=h1
  rw[Nat.pow_succ]
  split at h2
  ·have h2:args.length=2:=yv h2
   rw[h2] at ih;omega
  ·have h2:args.length=0:=yv h2
   obtain rfl:=z6.1 h2
   simp[GS,Bm]
theorem LG(lt:Int):∀l:List Ex,Ri t lt l=true->(GS l).length+l.length<=l.length*2 ^ Bm l
 |[],_=>by simp[GS]
 |e::r,h=>by
  rw[Ri,yt] at h
  have b:=NH lt e h.1
  have a:=LG lt r h.2
  rw[GS,Bm,ym,yE]
  have e1:2 ^ (AR e+1)<=2 ^ max (1+AR e) (Bm r):=Nat.pow_le_pow_right (by omega) (by omega)
  have e2:r.length*2 ^ Bm r<=r.length*2 ^ max (1+AR e) (Bm r):=Nat.mul_le_mul_left _ (Nat.pow_le_pow_right (by omega) (by omega))
  rw[Nat.succ_mul]
  omega
end
theorem SA{x:An}(b:Bq x=true):(AL x).length<=20000:=by
 obtain ⟨c,q,l,k,e,n,h,a,_⟩:=Ev b
 unfold AL J7 GM Eo GN Fm Fo
 have e1:(x.lets.zipIdx.flatMap fun p=> [(p.1.value,1+(p.2:Int))]).length<=x.lets.length*1:=Ez fun _ _ _=>by simp
 have e2:(x.crops.zipIdx.flatMap fun p=> [(p.1.need,(0:Int))]).length<=x.crops.length*1:=Ez fun _ _ _=>by simp
 have g:(x.reaches.zipIdx.flatMap fun p=> [(p.1.delay,(0:Int)),(p.1.cap,0),(p.1.bank,0),(p.1.siphon,0),(p.1.evap0,0),(p.1.evap1,0),(p.1.seep0,0),(p.1.seep1,0)]).length<=x.reaches.length*8:=Ez fun _ _ _=>by simp
 have f:(x.farms.zipIdx.flatMap fun p=> [(p.1.area,(0:Int))]).length<=x.farms.length*1:=Ez fun _ _ _=>by simp
 have m:(Ia x.rots).length<=x.rots.length*67:=by
  unfold Ia
  refine Ez fun d hd i=>?_
  have h1:(DL d.turns).length<=d.turns.length*1:=by unfold DL;exact Ez fun _ _ _=>by simp
  have:=a d hd
  simp only[ym,yE,yI]
  omega
 have o:(x.rights.zipIdx.flatMap fun p=> [(p.1.flow,(0:Int)),(p.1.frm,0),(p.1.to,0),(p.1.every,0),(p.1.len,0)]).length<=x.rights.length*5:=Ez fun _ _ _=>by simp
 have j:(x.duties.zipIdx.flatMap fun p=> [(p.1.due,(0:Int))]).length<=x.duties.length*1:=Ez fun _ _ _=>by simp
 simp only[ym,yE,yI]
 omega
theorem NI{x:An}(b:Bq x=true)(a:CK t x=true):(Da x).length<=900000000:=by
 obtain ⟨h,r,o,n,i,p,m,f,g⟩:=Ev b
 have j:=SA b
 unfold CK at a
 simp only[yt] at a
 have h1:=a.1
 rw[yL] at h1
 have e0:((AL x).flatMap Hj).length<=(AL x).length*511:=AH fun e c=>by
  unfold Hj
  split
  ·simp
  ·rename_i hl
   have h2:=h1 e c
   unfold Kh at h2
   rw[xY,or_iff_right hl] at h2
   have h3:=NH e.2 e.1 h2
   have h4:2 ^ (AR e.1+1)<=2 ^ 9:=Nat.pow_le_pow_right (by omega) (by have:=g e c;omega)
   omega
 have e1:(x.farms.flatMap GU).length<=x.farms.length*2:=AH fun _ _=>by simp[GU]
 have e2:(x.rots.flatMap Io).length<=x.rots.length*65:=AH fun d hd=>by
  have h1:(d.turns.flatMap fun k:Bt=> [k.farm]).length<=d.turns.length*1:=AH fun _ _=>by simp
  have:=f d hd
  unfold Io
  rw[yE];omega
 have l:(x.rights.flatMap G9).length<=x.rights.length*2:=AH fun _ _=>by simp[G9]
 have q:(x.duties.flatMap GW).length<=x.duties.length*2:=AH fun _ _=>by simp[GW]
 unfold Da AX
 simp only[ym,yP]
 omega
end
theorem Ip{w w':World}{x:An}{e:Ending}(h:ER w x e w'):∃cs:LV,e=.returned (.tuple #[.agg cs.toArray,.int .i64 (Au x)])∧cs.length=26∧(∀v∈cs,v.oneCell'=true)∧Below w.heap.size w w'∧(Au x=0->∃(L:Bh) (N:NP),B8 N w' L cs (A8 x)∧∀b,N b->w.heap.size<=b∧b < w'.heap.size):=by
 obtain ⟨hb,⟨h0,rfl⟩|⟨h0,cs,rfl,L,N,hl,hs,hN⟩⟩:=h
 ·exact ⟨Bo,rfl,rfl,fun v a=>yL.1 (show Bo.all (fun v=>v.oneCell')=true from rfl) v a,hb,fun h=>absurd h h0⟩
 ·exact ⟨cs,by rw[h0],hl,Md hs,hb,fun _=>⟨L,N,hs,hN⟩⟩
def Ui(w:World)(cs:LV):World:=w.alloc (.cells cs.toArray 35)
theorem Tv{w w1 w2:World}{x y:An}{L n:Bh}{j a:LV}{N i:NP}(m:Below w.heap.size w w1)(t:w1.heap.size=w.heap.size+1)(hs:B8 N w1 L j x)(o:w1.rangeAt w.heap.size 0 j)(hN:∀b,N b->b < w.heap.size)(d:Below w1.heap.size w1 w2)(k:B8 i w2 n a y)(g:∀b,i b->b < w2.heap.size):
  D0 (((w2.alloc (.cells a.toArray 35)).alloc (.cells #[.slice none 0 0] 127)).alloc (.cells #[.slice none 0 0] 127)) w.heap.size (w2.heap.size+1) x {L with s:=w.heap.size} j N∧
  D0 (((w2.alloc (.cells a.toArray 35)).alloc (.cells #[.slice none 0 0] 127)).alloc (.cells #[.slice none 0 0] 127)) w2.heap.size (w2.heap.size+1) y {n with s:=w2.heap.size} a i∧
  Below w.heap.size w (((w2.alloc (.cells a.toArray 35)).alloc (.cells #[.slice none 0 0] 127)).alloc (.cells #[.slice none 0 0] 127))∧
  (((w2.alloc (.cells a.toArray 35)).alloc (.cells #[.slice none 0 0] 127)).alloc (.cells #[.slice none 0 0] 127)).heap[w2.heap.size+1]?=some (.cells #[.slice none 0 0] 127 (0,0))∧
  (((w2.alloc (.cells a.toArray 35)).alloc (.cells #[.slice none 0 0] 127)).alloc (.cells #[.slice none 0 0] 127)).heap[w2.heap.size+2]?=some (.cells #[.slice none 0 0] 127 (0,0)):=by
 have r:=d.size
 have q:(w2.alloc (.cells a.toArray 35)).heap.size=w2.heap.size+1:=by simp
 have p:((w2.alloc (.cells a.toArray 35)).alloc (.cells qZ 127)).heap.size=w2.heap.size+2:=by simp
 obtain ⟨W,e⟩:∃W,W=((w2.alloc (.cells a.toArray 35)).alloc (.cells qZ 127)).alloc (.cells qZ 127):=⟨_,rfl⟩
 rw[<-e]
 have c:Below w2.heap.size w2 W:=by
  rw[e];exact (((yg _ _).alloc (ye _) _).alloc (by simp) _).alloc (by simp;omega) _
 have h3:W.heap[w2.heap.size]?=some (.cells a.toArray 35 (0,0)):=by
  rw[e,yQ _ _ _ (by omega),yQ _ _ _ (by omega)]
  exact World.alloc_heap_new _ _
 have h4:W.heap[w2.heap.size+1]?=some (.cells qZ 127 (0,0)):=by
  rw[e,yQ _ _ _ (by omega)]
  have:=World.alloc_heap_new (w2.alloc (.cells a.toArray 35)) (.cells qZ 127)
  rwa [q] at this
 have h5:W.heap[w2.heap.size+2]?=some (.cells qZ 127 (0,0)):=by
  rw[e]
  have:=World.alloc_heap_new ((w2.alloc (.cells a.toArray 35)).alloc (.cells qZ 127)) (.cells qZ 127)
  rwa [p] at this
 have f:∀b,b < w1.heap.size->W.heap[b]?=w1.heap[b]?:=fun b hb=>(c.block b (by omega)).trans (d.block b hb)
 have l:W.rangeAt w2.heap.size 0 a:=by
  have:=yR h3 0 a.length
  simpa using this
 refine ⟨⟨?_,rfl,A2 o (f _ (by omega)),fun b hb=>?_⟩,⟨?_,rfl,l,fun b hb=>?_⟩,?_,h4,h5⟩
 ·have h:=hs.same (N':=N) (w':=W) (fun _ h=>h) (fun b hb=>f b (by have:=hN b hb;omega))
  exact ⟨h.name,h.cells,h.lets,h.crops,h.reaches,h.farms,h.rots,h.rights,h.duties⟩
 ·rcases hb with rfl|hb
  ·omega
  ·have:=hN b hb;omega
 ·have h:=k.same (N':=i) (w':=W) (fun _ h=>h) (fun b hb=>c.block b (g b hb))
  exact ⟨h.name,h.cells,h.lets,h.crops,h.reaches,h.farms,h.rots,h.rights,h.duties⟩
 ·rcases hb with rfl|hb
  ·omega
  ·have:=g b hb;omega
 ·exact (m.trans (d.mono (by omega))).trans (c.mono (by omega))
theorem Hn{w:World}{x:An}{L:Bh}{cs:LV}{N:NP}(h:B8 N w L cs x)(hN:∀b,N b->b < w.heap.size)(s:I1 x)(R:GV w)(hd:∀e∈AL x,AR e.1<=1000000):
  Calls Try.prog 14 #[.agg cs.toArray] w fun e w'=>e=.returned (.int .i64 (Dg x))∧Below w.heap.size w w':=by
 obtain ⟨w1,d⟩:∃w1,w1=Ui w cs:=⟨_,rfl⟩
 have f:Below w.heap.size w w1:=by rw[d];exact (yg _ _).alloc (ye _) _
 have D:w1.heap.size=w.heap.size+1:=by rw[d];simp[Ui]
 have H:w1.rangeAt w.heap.size 0 cs:=by
  rw[d];unfold Ui
  have:=yR (World.alloc_heap_new w (.cells cs.toArray 35)) 0 cs.length
  simpa using this
 have p:B8 N w1 L cs x:=h.same (fun _ h=>h) (fun b hb=>f.block b (hN b hb))
 have A:=yb f;have r:=yb D;have l:=yb H;have B:=yb p;have HN:=yb hN
 have i:=yb (DG p (fun b hb=>by have:=hN b hb;omega) s (R.below f R.1) hd)
 have y:Hid ((Try.prog.info? 35).map (·.size)=some cs.length):=yb (by
  obtain ⟨c0,c1,c2,rfl,M,g1,J⟩:=h.cells
  obtain ⟨a0,Z,rfl,e0⟩:=M.cells
  obtain ⟨Y,p1,rfl,e1⟩:=g1.cells
  obtain ⟨a2,p2,rfl,e2⟩:=J.cells
  kernel_rfl)
 have z:=yb d
 clear d f D H p hN s R hd
 obtain ⟨P,m⟩:∃P,P=cs:=⟨_,rfl⟩
 rw[<-m] at l B i y
 have U:=yb m
 obtain ⟨c0,c1,c2,rfl,M,g1,J⟩:=h.cells
 obtain ⟨a0,Z,rfl,e0⟩:=M.cells
 obtain ⟨Y,p1,rfl,e1⟩:=g1.cells
 obtain ⟨a2,p2,rfl,e2⟩:=J.cells
 clear h M g1 J e0 e1 e2 m
 unfold Av.v at*
 simp only[z7,zj] at z U ⊢
 refine Cd (n:=10) Try.func14 rfl ?_
 have S:=RF w x
 generalize bodyPostM Fence.wide 10 Try.prog Try.f14 _=Q at S ⊢
 have W:=yb S
 clear S
 simp only[Try.ntmps14,yB,yE,yI,Nat.reduceAdd,Nat.reduceSub,zJ,zK,zW,zQ,zj,z7]
 refine Ad (A6 ?_)
 go_wp2
 have e1:=z.o
 unfold Ui at e1
 rw[<-e1,<-U.o]
 clear e1
 refine Ad (A6 ?_)
 go_upto_region 1 with fail
 refine xd ?_
 refine yj rfl 35 _ rfl w.heap.size 0 rfl P _ l.o qB rfl y.o ?_
 refine yF rfl fun K a=>?_
 go_simp
 refine i.o.mono ?_
 intro e w2 k
 obtain ⟨rs,rfl,F,g,E,t⟩:=Ip k
 clear k
 refine a _ _ ?_
 clear a K
 have j:=yb F;have C:=yb (yU g);have q:=yb E;have O:=yb t
 clear F g E t
 iterate 4
  refine yF rfl fun K a=>?_
  go_simp
  refine a _ _ ?_
  clear a K
 refine yX rfl 35 _ _ rfl w2.heap.size rs.toArray rfl rfl 35 _ (World.alloc_heap_new _ _) (by rw[yB,j.o];kernel_rfl) (by simp[j.o]) C.o ?_
 rw[World.setRow_alloc_new]
 refine yF rfl fun K a=>?_
 go_simp
 refine a _ _ ?_
 clear a K
 refine xB ?_
 by_cases hc:Au x=0
 ·have I:=yb (O.o hc)
  have G:=yb hc
  simp only[hc]
  clear hc
  iterate 2
   refine Ad (A6 ?_)
   go_wp2
  obtain ⟨L2,N2,s2,n2⟩:=I.o
  obtain ⟨k1,k2,k3,T,X⟩:=Tv A.o r.o B.o l.o HN.o q.o s2 (fun b hb=>(n2 b hb).2)
  obtain ⟨V,_,_,_,z5⟩:=Ed G.o
  exact U7 (base:=w2.heap.size+3) W.o G.o k1 k2 (by omega) (by omega) k3 (by simp) ⟨_,T⟩ T X (NI V z5) (NI (Mq V) (IU z5)) _ _ _ _ _ _ _ _ _ _ _ _ _ _ _ _ _ _ _ _ _ _ _ _ _ _ _ _ _ _ _ _ _ _ _ _ _ _ _ _ _ _ _ _ _ _ _ _ _ _ _ _ _ _ _ _ _ _ _
 ·have u:Hid (Dg x=Au x):=yb (by unfold Dg;rw[yu hc])
  generalize Au x=c at hc u ⊢
  have a6:(c !=0)=true:=by simpa using hc
  refine Ad (A6 ?_)
  go_wp2
  exact W.o.early c _ _ rfl ((A.o.trans (q.o.mono (by have:=r.o;omega))).alloc (by have:=q.o.size;have:=r.o;omega) _) u.o
theorem JJ(n u:Int)(w:World):Calls Try.prog 66 #[.int .i64 n,.int .i64 u] w fun e w'=>e=.returned (.agg #[.int .i64 1,.int .i64 n,.int .i64 u,.string ⟨#[]⟩,.int .i64 0,.slice none 0 0])∧Below w.heap.size w w':=by
 go_enter Try.func66,Try.ntmps66
 go_wp2
 have a:(w.alloc (.cells #[iV 1,iV n,iV u,.string ⟨#[]⟩,iV 0,.slice none 0 0] 26)).rangeAt w.heap.size 0 [iV 1,iV n,iV u,.string ⟨#[]⟩,iV 0,.slice none 0 0]:=yR (World.alloc_heap_new w _) 0 6
 exact ⟨rfl,_,Gp rfl rfl (xX _ w.heap.size 0 26 _ _ a qq rfl (by kernel_rfl)),rfl,(yg _ _).alloc (ye _) _⟩
def Bk(B:Nat)(w:World)(g:Nat)(row:Array Value)(ty:TypeId):Prop:=B < g∧w.heap[g]?=some (.cells row ty (0,0))
def Fg(B:Nat)(w w':World):Prop:=∀(b:Nat) (o:Obj),B < b->w.heap[b]?=some o->w'.heap[b]?=some o
theorem Bk.le{B:Nat}{w w':World}{g:Nat}{row:Array Value}{ty:TypeId}(h:Bk B w g row ty)(hl:Fg B w w'):Bk B w' g row ty:=⟨h.1,hl _ _ h.1 h.2⟩
theorem Fg.below{B:Nat}{w w':World}(h:Below w.heap.size w w'):Fg B w w':=fun b _ _ hb=>(h.block b (yf.1 hb).1).trans hb
theorem Fg.refl(B:Nat)(w:World):Fg B w w:=fun _ _ _ h=>h
def AD(B:Nat)(j:Nat)(v:Value)(w:World):Prop:=match j with
 |0=>v=.agg #[.int .i64 1,.int .i64 2,.int .i64 4,.string ⟨#[]⟩,.int .i64 0,.slice none 0 0]
 |1=>v=.agg #[.int .i64 1,.int .i64 3,.int .i64 1,.string ⟨#[]⟩,.int .i64 0,.slice none 0 0]
 |2=>v=.agg #[.string ⟨#[116]⟩,.int .i64 1,.int .i64 3,.int .i64 1,.string ⟨#[]⟩,.int .i64 0,.slice none 0 0]
 |3=>v=.agg #[.string ⟨#[116]⟩,.int .i64 0]
 |4=>v=.agg #[.int .i64 2,.int .i64 0,.int .i64 0,.string ⟨#[116]⟩,.int .i64 0,.slice none 0 0]
 |5=>v=.agg #[.int .i64 1,.int .i64 1,.int .i64 1,.string ⟨#[]⟩,.int .i64 0,.slice none 0 0]
 |6=>∃a:Nat,v=.slice (some ⟨a,0,none⟩) 2 2∧Bk B w a #[.int .i64 2,.int .i64 0,.int .i64 0,.string ⟨#[116]⟩,.int .i64 0,.slice none 0 0,.int .i64 1,.int .i64 1,.int .i64 1,.string ⟨#[]⟩,.int .i64 0,.slice none 0 0] 26
 |7=>∃a:Nat,v=.agg #[.int .i64 3,.int .i64 0,.int .i64 0,.string ⟨#[]⟩,.int .i64 0,.slice (some ⟨a,0,none⟩) 2 2]∧Bk B w a #[.int .i64 2,.int .i64 0,.int .i64 0,.string ⟨#[116]⟩,.int .i64 0,.slice none 0 0,.int .i64 1,.int .i64 1,.int .i64 1,.string ⟨#[]⟩,.int .i64 0,.slice none 0 0] 26
 |8=>∃a:Nat,v=.agg #[.string ⟨#[117]⟩,.int .i64 3,.int .i64 0,.int .i64 0,.string ⟨#[]⟩,.int .i64 0,.slice (some ⟨a,0,none⟩) 2 2]∧Bk B w a #[.int .i64 2,.int .i64 0,.int .i64 0,.string ⟨#[116]⟩,.int .i64 0,.slice none 0 0,.int .i64 1,.int .i64 1,.int .i64 1,.string ⟨#[]⟩,.int .i64 0,.slice none 0 0] 26
 |9=>∃a g:Nat,v=.slice (some ⟨g,0,none⟩) 2 2∧Bk B w a #[.int .i64 2,.int .i64 0,.int .i64 0,.string ⟨#[116]⟩,.int .i64 0,.slice none 0 0,.int .i64 1,.int .i64 1,.int .i64 1,.string ⟨#[]⟩,.int .i64 0,.slice none 0 0] 26∧Bk B w g #[.string ⟨#[116]⟩,.int .i64 1,.int .i64 3,.int .i64 1,.string ⟨#[]⟩,.int .i64 0,.slice none 0 0,.string ⟨#[117]⟩,.int .i64 3,.int .i64 0,.int .i64 0,.string ⟨#[]⟩,.int .i64 0,.slice (some ⟨a,0,none⟩) 2 2] 55
 |10=>v=.agg #[.string ⟨#[99,111,114,110]⟩,.int .i64 0,.int .i64 0,.int .i64 0,.string ⟨#[]⟩,.int .i64 0,.slice none 0 0]
 |11=>v=.agg #[.string ⟨#[114,105,99,101]⟩,.int .i64 0,.int .i64 0,.int .i64 0,.string ⟨#[]⟩,.int .i64 0,.slice none 0 0]
 |12=>∃f:Nat,v=.slice (some ⟨f,0,none⟩) 2 2∧Bk B w f #[.string ⟨#[99,111,114,110]⟩,.int .i64 0,.int .i64 0,.int .i64 0,.string ⟨#[]⟩,.int .i64 0,.slice none 0 0,.string ⟨#[114,105,99,101]⟩,.int .i64 0,.int .i64 0,.int .i64 0,.string ⟨#[]⟩,.int .i64 0,.slice none 0 0] 57
 |13=>v=.agg #[.string ⟨#[104,101,97,100]⟩,.string ⟨#[]⟩,.int .i64 0,.int .i64 1,.int .i64 1,.int .i64 3,.string ⟨#[]⟩,.int .i64 0,.slice none 0 0,.int .i64 2,.int .i64 0,.int .i64 0,.string ⟨#[117]⟩,.int .i64 0,.slice none 0 0,.int .i64 0,.int .i64 0,.int .i64 0,.string ⟨#[]⟩,.int .i64 0,.slice none 0 0,.int .i64 0,.int .i64 0,.int .i64 0,.string ⟨#[]⟩,.int .i64 0,.slice none 0 0,.int .i64 0,.int .i64 0,.int .i64 0,.string ⟨#[]⟩,.int .i64 0,.slice none 0 0,.int .i64 0,.int .i64 0,.int .i64 0,.string ⟨#[]⟩,.int .i64 0,.slice none 0 0,.int .i64 0,.int .i64 0,.int .i64 0,.string ⟨#[]⟩,.int .i64 0,.slice none 0 0,.int .i64 0,.int .i64 0,.int .i64 0,.string ⟨#[]⟩,.int .i64 0,.slice none 0 0]
 |14=>v=.agg #[.string ⟨#[104,101,97,100]⟩,.int .i64 0]
 |15=>v=.agg #[.string ⟨#[116,97,105,108]⟩,.string ⟨#[104,101,97,100]⟩,.int .i64 0,.int .i64 0,.int .i64 0,.int .i64 0,.string ⟨#[]⟩,.int .i64 0,.slice none 0 0,.int .i64 0,.int .i64 0,.int .i64 0,.string ⟨#[]⟩,.int .i64 0,.slice none 0 0,.int .i64 0,.int .i64 0,.int .i64 0,.string ⟨#[]⟩,.int .i64 0,.slice none 0 0,.int .i64 0,.int .i64 0,.int .i64 0,.string ⟨#[]⟩,.int .i64 0,.slice none 0 0,.int .i64 0,.int .i64 0,.int .i64 0,.string ⟨#[]⟩,.int .i64 0,.slice none 0 0,.int .i64 0,.int .i64 0,.int .i64 0,.string ⟨#[]⟩,.int .i64 0,.slice none 0 0,.int .i64 0,.int .i64 0,.int .i64 0,.string ⟨#[]⟩,.int .i64 0,.slice none 0 0,.int .i64 0,.int .i64 0,.int .i64 0,.string ⟨#[]⟩,.int .i64 0,.slice none 0 0]
 |16=>∃e:Nat,v=.slice (some ⟨e,0,none⟩) 2 2∧Bk B w e #[.string ⟨#[104,101,97,100]⟩,.string ⟨#[]⟩,.int .i64 0,.int .i64 1,.int .i64 1,.int .i64 3,.string ⟨#[]⟩,.int .i64 0,.slice none 0 0,.int .i64 2,.int .i64 0,.int .i64 0,.string ⟨#[117]⟩,.int .i64 0,.slice none 0 0,.int .i64 0,.int .i64 0,.int .i64 0,.string ⟨#[]⟩,.int .i64 0,.slice none 0 0,.int .i64 0,.int .i64 0,.int .i64 0,.string ⟨#[]⟩,.int .i64 0,.slice none 0 0,.int .i64 0,.int .i64 0,.int .i64 0,.string ⟨#[]⟩,.int .i64 0,.slice none 0 0,.int .i64 0,.int .i64 0,.int .i64 0,.string ⟨#[]⟩,.int .i64 0,.slice none 0 0,.int .i64 0,.int .i64 0,.int .i64 0,.string ⟨#[]⟩,.int .i64 0,.slice none 0 0,.int .i64 0,.int .i64 0,.int .i64 0,.string ⟨#[]⟩,.int .i64 0,.slice none 0 0,.string ⟨#[116,97,105,108]⟩,.string ⟨#[104,101,97,100]⟩,.int .i64 0,.int .i64 0,.int .i64 0,.int .i64 0,.string ⟨#[]⟩,.int .i64 0,.slice none 0 0,.int .i64 0,.int .i64 0,.int .i64 0,.string ⟨#[]⟩,.int .i64 0,.slice none 0 0,.int .i64 0,.int .i64 0,.int .i64 0,.string ⟨#[]⟩,.int .i64 0,.slice none 0 0,.int .i64 0,.int .i64 0,.int .i64 0,.string ⟨#[]⟩,.int .i64 0,.slice none 0 0,.int .i64 0,.int .i64 0,.int .i64 0,.string ⟨#[]⟩,.int .i64 0,.slice none 0 0,.int .i64 0,.int .i64 0,.int .i64 0,.string ⟨#[]⟩,.int .i64 0,.slice none 0 0,.int .i64 0,.int .i64 0,.int .i64 0,.string ⟨#[]⟩,.int .i64 0,.slice none 0 0,.int .i64 0,.int .i64 0,.int .i64 0,.string ⟨#[]⟩,.int .i64 0,.slice none 0 0] 51
 |17=>v=.agg #[.string ⟨#[116,97,105,108]⟩,.int .i64 0]
 |18=>v=.agg #[.string ⟨#[114,105,99,101]⟩,.int .i64 0]
 |19=>v=.agg #[.string ⟨#[97,110,97]⟩,.string ⟨#[116,97,105,108]⟩,.int .i64 0,.bool false,.int .i64 0,.int .i64 0,.int .i64 0,.string ⟨#[]⟩,.int .i64 0,.slice none 0 0,.string ⟨#[114,105,99,101]⟩,.int .i64 0]
 |20=>v=.agg #[.string ⟨#[104,101,97,100]⟩,.int .i64 0]
 |21=>v=.agg #[.string ⟨#[98,101,97]⟩,.string ⟨#[104,101,97,100]⟩,.int .i64 0,.bool true,.int .i64 0,.int .i64 0,.int .i64 0,.string ⟨#[]⟩,.int .i64 0,.slice none 0 0,.string ⟨#[]⟩,.int .i64 0]
 |22=>∃c:Nat,v=.slice (some ⟨c,0,none⟩) 2 2∧Bk B w c #[.string ⟨#[97,110,97]⟩,.string ⟨#[116,97,105,108]⟩,.int .i64 0,.bool false,.int .i64 0,.int .i64 0,.int .i64 0,.string ⟨#[]⟩,.int .i64 0,.slice none 0 0,.string ⟨#[114,105,99,101]⟩,.int .i64 0,.string ⟨#[98,101,97]⟩,.string ⟨#[104,101,97,100]⟩,.int .i64 0,.bool true,.int .i64 0,.int .i64 0,.int .i64 0,.string ⟨#[]⟩,.int .i64 0,.slice none 0 0,.string ⟨#[]⟩,.int .i64 0] 59
 |23=>v=.agg #[.string ⟨#[116,97,105,108]⟩,.int .i64 0]
 |24=>v=.agg #[.string ⟨#[97,110,97]⟩,.int .i64 0]
 |25=>v=.agg #[.string ⟨#[97,110,97]⟩,.int .i64 0,.int .i64 0,.int .i64 0,.int .i64 0,.string ⟨#[]⟩,.int .i64 0,.slice none 0 0]
 |26=>∃b:Nat,v=.slice (some ⟨b,0,none⟩) 1 1∧Bk B w b #[.string ⟨#[97,110,97]⟩,.int .i64 0,.int .i64 0,.int .i64 0,.int .i64 0,.string ⟨#[]⟩,.int .i64 0,.slice none 0 0] 66
 |27=>∃b:Nat,v=.agg #[.string ⟨#[116,117,114,110,115]⟩,.string ⟨#[116,97,105,108]⟩,.int .i64 0,.int .i64 0,.int .i64 0,.int .i64 0,.int .i64 0,.string ⟨#[]⟩,.int .i64 0,.slice none 0 0,.int .i64 0,.int .i64 0,.int .i64 0,.string ⟨#[]⟩,.int .i64 0,.slice none 0 0,.int .i64 0,.int .i64 0,.int .i64 0,.string ⟨#[]⟩,.int .i64 0,.slice none 0 0,.slice (some ⟨b,0,none⟩) 1 1]∧Bk B w b #[.string ⟨#[97,110,97]⟩,.int .i64 0,.int .i64 0,.int .i64 0,.int .i64 0,.string ⟨#[]⟩,.int .i64 0,.slice none 0 0] 66
 |28=>∃b i:Nat,v=.slice (some ⟨i,0,none⟩) 1 1∧Bk B w b #[.string ⟨#[97,110,97]⟩,.int .i64 0,.int .i64 0,.int .i64 0,.int .i64 0,.string ⟨#[]⟩,.int .i64 0,.slice none 0 0] 66∧Bk B w i #[.string ⟨#[116,117,114,110,115]⟩,.string ⟨#[116,97,105,108]⟩,.int .i64 0,.int .i64 0,.int .i64 0,.int .i64 0,.int .i64 0,.string ⟨#[]⟩,.int .i64 0,.slice none 0 0,.int .i64 0,.int .i64 0,.int .i64 0,.string ⟨#[]⟩,.int .i64 0,.slice none 0 0,.int .i64 0,.int .i64 0,.int .i64 0,.string ⟨#[]⟩,.int .i64 0,.slice none 0 0,.slice (some ⟨b,0,none⟩) 1 1] 64
 |29=>v=.agg #[.string ⟨#[98,101,97]⟩,.int .i64 0]
 |30=>v=.agg #[.string ⟨#[116,97,105,108]⟩,.int .i64 0]
 |31=>v=.agg #[.int .i64 2,.string ⟨#[109,105,110,101]⟩,.string ⟨#[98,101,97]⟩,.int .i64 0,.string ⟨#[116,97,105,108]⟩,.int .i64 0,.int .i64 0,.int .i64 0,.int .i64 0,.int .i64 0,.string ⟨#[]⟩,.int .i64 0,.slice none 0 0,.int .i64 0,.int .i64 0,.int .i64 0,.string ⟨#[]⟩,.int .i64 0,.slice none 0 0,.int .i64 0,.int .i64 0,.int .i64 0,.string ⟨#[]⟩,.int .i64 0,.slice none 0 0,.int .i64 0,.int .i64 0,.int .i64 0,.string ⟨#[]⟩,.int .i64 0,.slice none 0 0,.int .i64 0,.int .i64 0,.int .i64 0,.string ⟨#[]⟩,.int .i64 0,.slice none 0 0]
 |32=>∃h:Nat,v=.slice (some ⟨h,0,none⟩) 1 1∧Bk B w h #[.int .i64 2,.string ⟨#[109,105,110,101]⟩,.string ⟨#[98,101,97]⟩,.int .i64 0,.string ⟨#[116,97,105,108]⟩,.int .i64 0,.int .i64 0,.int .i64 0,.int .i64 0,.int .i64 0,.string ⟨#[]⟩,.int .i64 0,.slice none 0 0,.int .i64 0,.int .i64 0,.int .i64 0,.string ⟨#[]⟩,.int .i64 0,.slice none 0 0,.int .i64 0,.int .i64 0,.int .i64 0,.string ⟨#[]⟩,.int .i64 0,.slice none 0 0,.int .i64 0,.int .i64 0,.int .i64 0,.string ⟨#[]⟩,.int .i64 0,.slice none 0 0,.int .i64 0,.int .i64 0,.int .i64 0,.string ⟨#[]⟩,.int .i64 0,.slice none 0 0] 68
 |33=>v=.agg #[.string ⟨#[98,101,97]⟩,.int .i64 0]
 |34=>v=.agg #[.string ⟨#[116,97,105,108]⟩,.int .i64 0]
 |35=>v=.agg #[.string ⟨#[99,108,101,97,110]⟩,.string ⟨#[98,101,97]⟩,.int .i64 0,.string ⟨#[116,97,105,108]⟩,.int .i64 0,.int .i64 0,.int .i64 0,.int .i64 0,.string ⟨#[]⟩,.int .i64 0,.slice none 0 0]
 |36=>∃d:Nat,v=.slice (some ⟨d,0,none⟩) 1 1∧Bk B w d #[.string ⟨#[99,108,101,97,110]⟩,.string ⟨#[98,101,97]⟩,.int .i64 0,.string ⟨#[116,97,105,108]⟩,.int .i64 0,.int .i64 0,.int .i64 0,.int .i64 0,.string ⟨#[]⟩,.int .i64 0,.slice none 0 0] 70
 |37=>∃a g f e c b i h d:Nat,v=.agg #[.string ⟨#[118,101,103,97]⟩,.int .i64 1,.int .i64 2,.int .i64 4,.string ⟨#[]⟩,.int .i64 0,.slice none 0 0,.int .i64 0,.int .i64 0,.int .i64 0,.string ⟨#[]⟩,.int .i64 0,.slice none 0 0,.int .i64 0,.int .i64 0,.int .i64 0,.string ⟨#[]⟩,.int .i64 0,.slice none 0 0,.slice (some ⟨g,0,none⟩) 2 2,.slice (some ⟨f,0,none⟩) 2 2,.slice (some ⟨e,0,none⟩) 2 2,.slice (some ⟨c,0,none⟩) 2 2,.slice (some ⟨i,0,none⟩) 1 1,.slice (some ⟨h,0,none⟩) 1 1,.slice (some ⟨d,0,none⟩) 1 1]∧Bk B w a #[.int .i64 2,.int .i64 0,.int .i64 0,.string ⟨#[116]⟩,.int .i64 0,.slice none 0 0,.int .i64 1,.int .i64 1,.int .i64 1,.string ⟨#[]⟩,.int .i64 0,.slice none 0 0] 26∧Bk B w g #[.string ⟨#[116]⟩,.int .i64 1,.int .i64 3,.int .i64 1,.string ⟨#[]⟩,.int .i64 0,.slice none 0 0,.string ⟨#[117]⟩,.int .i64 3,.int .i64 0,.int .i64 0,.string ⟨#[]⟩,.int .i64 0,.slice (some ⟨a,0,none⟩) 2 2] 55∧Bk B w f #[.string ⟨#[99,111,114,110]⟩,.int .i64 0,.int .i64 0,.int .i64 0,.string ⟨#[]⟩,.int .i64 0,.slice none 0 0,.string ⟨#[114,105,99,101]⟩,.int .i64 0,.int .i64 0,.int .i64 0,.string ⟨#[]⟩,.int .i64 0,.slice none 0 0] 57∧Bk B w e #[.string ⟨#[104,101,97,100]⟩,.string ⟨#[]⟩,.int .i64 0,.int .i64 1,.int .i64 1,.int .i64 3,.string ⟨#[]⟩,.int .i64 0,.slice none 0 0,.int .i64 2,.int .i64 0,.int .i64 0,.string ⟨#[117]⟩,.int .i64 0,.slice none 0 0,.int .i64 0,.int .i64 0,.int .i64 0,.string ⟨#[]⟩,.int .i64 0,.slice none 0 0,.int .i64 0,.int .i64 0,.int .i64 0,.string ⟨#[]⟩,.int .i64 0,.slice none 0 0,.int .i64 0,.int .i64 0,.int .i64 0,.string ⟨#[]⟩,.int .i64 0,.slice none 0 0,.int .i64 0,.int .i64 0,.int .i64 0,.string ⟨#[]⟩,.int .i64 0,.slice none 0 0,.int .i64 0,.int .i64 0,.int .i64 0,.string ⟨#[]⟩,.int .i64 0,.slice none 0 0,.int .i64 0,.int .i64 0,.int .i64 0,.string ⟨#[]⟩,.int .i64 0,.slice none 0 0,.string ⟨#[116,97,105,108]⟩,.string ⟨#[104,101,97,100]⟩,.int .i64 0,.int .i64 0,.int .i64 0,.int .i64 0,.string ⟨#[]⟩,.int .i64 0,.slice none 0 0,.int .i64 0,.int .i64 0,.int .i64 0,.string ⟨#[]⟩,.int .i64 0,.slice none 0 0,.int .i64 0,.int .i64 0,.int .i64 0,.string ⟨#[]⟩,.int .i64 0,.slice none 0 0,.int .i64 0,.int .i64 0,.int .i64 0,.string ⟨#[]⟩,.int .i64 0,.slice none 0 0,.int .i64 0,.int .i64 0,.int .i64 0,.string ⟨#[]⟩,.int .i64 0,.slice none 0 0,.int .i64 0,.int .i64 0,.int .i64 0,.string ⟨#[]⟩,.int .i64 0,.slice none 0 0,.int .i64 0,.int .i64 0,.int .i64 0,.string ⟨#[]⟩,.int .i64 0,.slice none 0 0,.int .i64 0,.int .i64 0,.int .i64 0,.string ⟨#[]⟩,.int .i64 0,.slice none 0 0] 51∧Bk B w c #[.string ⟨#[97,110,97]⟩,.string ⟨#[116,97,105,108]⟩,.int .i64 0,.bool false,.int .i64 0,.int .i64 0,.int .i64 0,.string ⟨#[]⟩,.int .i64 0,.slice none 0 0,.string ⟨#[114,105,99,101]⟩,.int .i64 0,.string ⟨#[98,101,97]⟩,.string ⟨#[104,101,97,100]⟩,.int .i64 0,.bool true,.int .i64 0,.int .i64 0,.int .i64 0,.string ⟨#[]⟩,.int .i64 0,.slice none 0 0,.string ⟨#[]⟩,.int .i64 0] 59∧Bk B w b #[.string ⟨#[97,110,97]⟩,.int .i64 0,.int .i64 0,.int .i64 0,.int .i64 0,.string ⟨#[]⟩,.int .i64 0,.slice none 0 0] 66∧Bk B w i #[.string ⟨#[116,117,114,110,115]⟩,.string ⟨#[116,97,105,108]⟩,.int .i64 0,.int .i64 0,.int .i64 0,.int .i64 0,.int .i64 0,.string ⟨#[]⟩,.int .i64 0,.slice none 0 0,.int .i64 0,.int .i64 0,.int .i64 0,.string ⟨#[]⟩,.int .i64 0,.slice none 0 0,.int .i64 0,.int .i64 0,.int .i64 0,.string ⟨#[]⟩,.int .i64 0,.slice none 0 0,.slice (some ⟨b,0,none⟩) 1 1] 64∧Bk B w h #[.int .i64 2,.string ⟨#[109,105,110,101]⟩,.string ⟨#[98,101,97]⟩,.int .i64 0,.string ⟨#[116,97,105,108]⟩,.int .i64 0,.int .i64 0,.int .i64 0,.int .i64 0,.int .i64 0,.string ⟨#[]⟩,.int .i64 0,.slice none 0 0,.int .i64 0,.int .i64 0,.int .i64 0,.string ⟨#[]⟩,.int .i64 0,.slice none 0 0,.int .i64 0,.int .i64 0,.int .i64 0,.string ⟨#[]⟩,.int .i64 0,.slice none 0 0,.int .i64 0,.int .i64 0,.int .i64 0,.string ⟨#[]⟩,.int .i64 0,.slice none 0 0,.int .i64 0,.int .i64 0,.int .i64 0,.string ⟨#[]⟩,.int .i64 0,.slice none 0 0] 68∧Bk B w d #[.string ⟨#[99,108,101,97,110]⟩,.string ⟨#[98,101,97]⟩,.int .i64 0,.string ⟨#[116,97,105,108]⟩,.int .i64 0,.int .i64 0,.int .i64 0,.int .i64 0,.string ⟨#[]⟩,.int .i64 0,.slice none 0 0] 70
 |_=>True
theorem LL{B:Nat}(j:Nat)(v:Value)(w w':World)(hl:Fg B w w')(h:AD B j v w):AD B j v w':=by
 match j,h with
 |0,h=>exact h
 |1,h=>exact h
 |2,h=>exact h
 |3,h=>exact h
 |4,h=>exact h
 |5,h=>exact h
 |6,h=>
  obtain ⟨a,h0,b⟩:=h
  exact ⟨a,h0,b.le hl⟩
 |7,h=>
  obtain ⟨a,h0,b⟩:=h
  exact ⟨a,h0,b.le hl⟩
 |8,h=>
  obtain ⟨a,h0,b⟩:=h
  exact ⟨a,h0,b.le hl⟩
 |9,h=>
  obtain ⟨a,n,h0,b,i⟩:=h
  exact ⟨a,n,h0,b.le hl,i.le hl⟩
 |10,h=>exact h
 |11,h=>exact h
 |12,h=>
  obtain ⟨m,h0,t⟩:=h
  exact ⟨m,h0,t.le hl⟩
 |13,h=>exact h
 |14,h=>exact h
 |15,h=>exact h
 |16,h=>
  obtain ⟨p,h0,r⟩:=h
  exact ⟨p,h0,r.le hl⟩
 |17,h=>exact h
 |18,h=>exact h
 |19,h=>exact h
 |20,h=>exact h
 |21,h=>exact h
 |22,h=>
  obtain ⟨k,h0,e⟩:=h
  exact ⟨k,h0,e.le hl⟩
 |23,h=>exact h
 |24,h=>exact h
 |25,h=>exact h
 |26,h=>
  obtain ⟨d,h0,c⟩:=h
  exact ⟨d,h0,c.le hl⟩
 |27,h=>
  obtain ⟨d,h0,c⟩:=h
  exact ⟨d,h0,c.le hl⟩
 |28,h=>
  obtain ⟨d,s,h0,c,o⟩:=h
  exact ⟨d,s,h0,c.le hl,o.le hl⟩
 |29,h=>exact h
 |30,h=>exact h
 |31,h=>exact h
 |32,h=>
  obtain ⟨f,h0,l⟩:=h
  exact ⟨f,h0,l.le hl⟩
 |33,h=>exact h
 |34,h=>exact h
 |35,h=>exact h
 |36,h=>
  obtain ⟨g,h0,q⟩:=h
  exact ⟨g,h0,q.le hl⟩
 |37,h=>
  obtain ⟨a,n,m,p,k,d,s,f,g,h0,b,i,t,r,e,c,o,l,q⟩:=h
  exact ⟨a,n,m,p,k,d,s,f,g,h0,b.le hl,i.le hl,t.le hl,r.le hl,e.le hl,c.le hl,o.le hl,l.le hl,q.le hl⟩
 |_+38,_=>trivial
structure PH (W:World) (B:Nat) (l:Array Bool) (w:World):Prop where
 one:l.getD 38 false=false->Below W.heap.size W w
 two:l.getD 38 false=true->∃w1 cells,AD B 37 (.agg cells) w1∧Below W.heap.size W w1∧w=w1.setRow B cells
theorem PH.quiet{W:World}{B:Nat}{l:Array Bool}{w w2:World}{i:Nat}(h:PH W B l w)(n:l.getD 38 false=false)(hi:i≠38)(hb:Below w.heap.size w w2):PH W B (l.setIfInBounds i true) w2:=
 ⟨fun _=>(h.one n).trans (hb.mono (h.one n).size),fun a=>by rw[Aa hi,n] at a;cases a⟩
def FN:LV:=[.string ⟨#[104,101,97,100]⟩,.string ⟨#[]⟩,.int .i64 0,.int .i64 1,.int .i64 1,.int .i64 3,.string ⟨#[]⟩,.int .i64 0,.slice none 0 0,.int .i64 2,.int .i64 0,.int .i64 0,.string ⟨#[117]⟩,.int .i64 0,.slice none 0 0,.int .i64 0,.int .i64 0,.int .i64 0,.string ⟨#[]⟩,.int .i64 0,.slice none 0 0,.int .i64 0,.int .i64 0,.int .i64 0,.string ⟨#[]⟩,.int .i64 0,.slice none 0 0,.int .i64 0,.int .i64 0,.int .i64 0,.string ⟨#[]⟩,.int .i64 0,.slice none 0 0,.int .i64 0,.int .i64 0,.int .i64 0,.string ⟨#[]⟩,.int .i64 0,.slice none 0 0,.int .i64 0,.int .i64 0,.int .i64 0,.string ⟨#[]⟩,.int .i64 0,.slice none 0 0,.int .i64 0,.int .i64 0,.int .i64 0,.string ⟨#[]⟩,.int .i64 0,.slice none 0 0]
theorem OW{T:Act}{W0:World}{Q:QT}{B B2:Nat}{row0:Array Value}(ops:Array Oper)(R:Fx Try.f21 3=some ops)
 (bk:T.tmps.getD 0 undef=.pointer (some ⟨B,0,none⟩))(bo:T.tmps.getD 2 undef=.pointer (some ⟨B2,0,none⟩))(hz:T.tmps.size=46)(q:B < W0.heap.size)(Y:B2 < W0.heap.size)(S:W0.heap[B]?=some (.cells row0 35 (0,0)))(N:row0.size=26)
 (al:W0.rangeAt B2 0 FN)
 (hQ:∀(a:Act) w1 cells,a.tmps.size=46->a.defers=T.defers->(∀t,(t < 8∨45 < t)->a.tmps.getD t undef=T.tmps.getD t undef)->AD B 37 (.agg cells) w1->Below W0.heap.size W0 w1->Q .normal a (w1.setRow B cells)):
  (Code.region 3 ops true).wp Try.prog Q T W0:=by
 obtain rfl:=yh ((rfl:Fx Try.f21 3=some _).symm.trans R)
 clear R
 refine Df (by kernel_rfl) (fun l _ w=>PH W0 B l w) (AD B) (fun _=>Fg B) (by kernel_rfl) (by rw[hz];kernel_rfl) (by kernel_rfl) (fun _ j v w w' _ _ hl h=>LL j v w w' hl h) ⟨fun _=>(yg _ _).drew,fun h=>(by cases h)⟩ ?_ ?_
 ·intro ix f a w' hM g o n
  have m:=yb hM.ext
  have bi:=(yf.1 n).1
  have bh:=hM.size
  match ix,bi with
  |0,_=>
   have c:f.getD 38 false=false:=by
    rw[yi];intro h6
    have:=A1 hM.down 40 38 0 (by kernel_rfl) h6
    rw[hM.not_yet g] at this;cases this
   have i:=yb c
   clear c
   obtain rfl:=yh n
   go_simp
   refine (JJ 2 4 _).mono ?_
   rintro e w2 ⟨rfl,x⟩
   exact ⟨_,rfl,m.o.quiet i.o (by decide) x,Fg.below x,rfl⟩
  |1,_=>
   have c:f.getD 38 false=false:=by
    rw[yi];intro h6
    have:=A1 hM.down 40 38 1 (by kernel_rfl) h6
    rw[hM.not_yet g] at this;cases this
   have i:=yb c
   clear c
   obtain rfl:=yh n
   go_simp
   refine (JJ 3 1 _).mono ?_
   rintro e w2 ⟨rfl,x⟩
   exact ⟨_,rfl,m.o.quiet i.o (by decide) x,Fg.below x,rfl⟩
  |2,_=>
   have c:f.getD 38 false=false:=by
    rw[yi];intro h6
    have:=A1 hM.down 40 38 2 (by kernel_rfl) h6
    rw[hM.not_yet g] at this;cases this
   have i:=yb c
   clear c
   have d9:=hM.dep g 1 9 (by kernel_rfl) (by kernel_rfl)
   unfold AD at d9
   simp only at d9
   obtain rfl:=yh n
   go_simp
   exact ⟨_,rfl,m.o.quiet i.o (by decide) (yg _ _),Fg.refl _ _,rfl⟩
  |3,_=>
   have c:f.getD 38 false=false:=by
    rw[yi];intro h6
    have:=A1 hM.down 40 38 3 (by kernel_rfl) h6
    rw[hM.not_yet g] at this;cases this
   have i:=yb c
   clear c
   obtain rfl:=yh n
   go_simp
   exact ⟨_,rfl,m.o.quiet i.o (by decide) (yg _ _),Fg.refl _ _,rfl⟩
  |4,_=>
   have c:f.getD 38 false=false:=by
    rw[yi];intro h6
    have:=A1 hM.down 40 38 4 (by kernel_rfl) h6
    rw[hM.not_yet g] at this;cases this
   have i:=yb c
   clear c
   have aw:=hM.dep g 3 11 (by kernel_rfl) (by kernel_rfl)
   unfold AD at aw
   simp only at aw
   obtain rfl:=yh n
   go_simp
   exact ⟨_,rfl,m.o.quiet i.o (by decide) (yg _ _),Fg.refl _ _,rfl⟩
  |5,_=>
   have c:f.getD 38 false=false:=by
    rw[yi];intro h6
    have:=A1 hM.down 40 38 5 (by kernel_rfl) h6
    rw[hM.not_yet g] at this;cases this
   have i:=yb c
   clear c
   obtain rfl:=yh n
   go_simp
   refine (JJ 1 1 _).mono ?_
   rintro e w2 ⟨rfl,x⟩
   exact ⟨_,rfl,m.o.quiet i.o (by decide) x,Fg.below x,rfl⟩
  |6,_=>
   have c:f.getD 38 false=false:=by
    rw[yi];intro h6
    have:=A1 hM.down 40 38 6 (by kernel_rfl) h6
    rw[hM.not_yet g] at this;cases this
   have i:=yb c
   clear c
   have ac:=hM.dep g 4 12 (by kernel_rfl) (by kernel_rfl)
   unfold AD at ac
   simp only at ac
   have af:=hM.dep g 5 13 (by kernel_rfl) (by kernel_rfl)
   unfold AD at af
   simp only at af
   obtain rfl:=yh n
   go_simp
   have k:Below w'.heap.size w' (w'.alloc (.cells #[iV 2,iV 0,iV 0,.string ⟨#[116]⟩,iV 0,.slice none 0 0,iV 1,iV 1,iV 1,.string ⟨#[]⟩,iV 0,.slice none 0 0] 26)):=(yg _ _).alloc (ye _) _
   have p:B < w'.heap.size:=yp q (m.o.one i.o).size
   exact ⟨_,rfl,m.o.quiet i.o (by decide) k,Fg.below k,w'.heap.size,rfl,p,World.alloc_heap_new _ _⟩
  |7,_=>
   have c:f.getD 38 false=false:=by
    rw[yi];intro h6
    have:=A1 hM.down 40 38 7 (by kernel_rfl) h6
    rw[hM.not_yet g] at this;cases this
   have i:=yb c
   clear c
   have K:=hM.dep g 6 14 (by kernel_rfl) (by kernel_rfl)
   unfold AD at K
   simp only at K
   obtain ⟨s,K,r⟩:=K
   have y:=yb r
   clear r
   obtain rfl:=yh n
   go_simp
   exact ⟨_,rfl,m.o.quiet i.o (by decide) (yg _ _),Fg.refl _ _,s,rfl,y.o⟩
  |8,_=>
   have c:f.getD 38 false=false:=by
    rw[yi];intro h6
    have:=A1 hM.down 40 38 8 (by kernel_rfl) h6
    rw[hM.not_yet g] at this;cases this
   have i:=yb c
   clear c
   have E:=hM.dep g 7 15 (by kernel_rfl) (by kernel_rfl)
   unfold AD at E
   simp only at E
   obtain ⟨s,E,r⟩:=E
   have y:=yb r
   clear r
   obtain rfl:=yh n
   go_simp
   exact ⟨_,rfl,m.o.quiet i.o (by decide) (yg _ _),Fg.refl _ _,s,rfl,y.o⟩
  |9,_=>
   have c:f.getD 38 false=false:=by
    rw[yi];intro h6
    have:=A1 hM.down 40 38 9 (by kernel_rfl) h6
    rw[hM.not_yet g] at this;cases this
   have i:=yb c
   clear c
   have a0:=hM.dep g 2 10 (by kernel_rfl) (by kernel_rfl)
   unfold AD at a0
   simp only at a0
   have L:=hM.dep g 8 16 (by kernel_rfl) (by kernel_rfl)
   unfold AD at L
   simp only at L
   obtain ⟨s,L,r⟩:=L
   have y:=yb r
   clear r
   obtain rfl:=yh n
   go_simp
   have k:Below w'.heap.size w' (w'.alloc (.cells #[.string ⟨#[116]⟩,iV 1,iV 3,iV 1,.string ⟨#[]⟩,iV 0,.slice none 0 0,.string ⟨#[117]⟩,iV 3,iV 0,iV 0,.string ⟨#[]⟩,iV 0,.slice (some (aV s 0)) 2 2] 55)):=(yg _ _).alloc (ye _) _
   have p:B < w'.heap.size:=yp q (m.o.one i.o).size
   exact ⟨_,rfl,m.o.quiet i.o (by decide) k,Fg.below k,s,w'.heap.size,rfl,y.o.le (Fg.below k),p,World.alloc_heap_new _ _⟩
  |10,_=>
   have c:f.getD 38 false=false:=by
    rw[yi];intro h6
    have:=A1 hM.down 40 38 10 (by kernel_rfl) h6
    rw[hM.not_yet g] at this;cases this
   have i:=yb c
   clear c
   obtain rfl:=yh n
   go_simp
   exact ⟨_,rfl,m.o.quiet i.o (by decide) (yg _ _),Fg.refl _ _,rfl⟩
  |11,_=>
   have c:f.getD 38 false=false:=by
    rw[yi];intro h6
    have:=A1 hM.down 40 38 11 (by kernel_rfl) h6
    rw[hM.not_yet g] at this;cases this
   have i:=yb c
   clear c
   obtain rfl:=yh n
   go_simp
   exact ⟨_,rfl,m.o.quiet i.o (by decide) (yg _ _),Fg.refl _ _,rfl⟩
  |12,_=>
   have c:f.getD 38 false=false:=by
    rw[yi];intro h6
    have:=A1 hM.down 40 38 12 (by kernel_rfl) h6
    rw[hM.not_yet g] at this;cases this
   have i:=yb c
   clear c
   have ai:=hM.dep g 10 18 (by kernel_rfl) (by kernel_rfl)
   unfold AD at ai
   simp only at ai
   have aa:=hM.dep g 11 19 (by kernel_rfl) (by kernel_rfl)
   unfold AD at aa
   simp only at aa
   obtain rfl:=yh n
   go_simp
   have k:Below w'.heap.size w' (w'.alloc (.cells #[.string ⟨#[99,111,114,110]⟩,iV 0,iV 0,iV 0,.string ⟨#[]⟩,iV 0,.slice none 0 0,.string ⟨#[114,105,99,101]⟩,iV 0,iV 0,iV 0,.string ⟨#[]⟩,iV 0,.slice none 0 0] 57)):=(yg _ _).alloc (ye _) _
   have p:B < w'.heap.size:=yp q (m.o.one i.o).size
   exact ⟨_,rfl,m.o.quiet i.o (by decide) k,Fg.below k,w'.heap.size,rfl,p,World.alloc_heap_new _ _⟩
  |13,_=>
   have c:f.getD 38 false=false:=by
    rw[yi];intro h6
    have:=A1 hM.down 40 38 13 (by kernel_rfl) h6
    rw[hM.not_yet g] at this;cases this
   have i:=yb c
   clear c
   have d:=hM.old g 2 (by kernel_rfl) _ bo
   have ba:=yb (A2 al ((m.o.one i.o).block _ Y))
   clear al
   obtain rfl:=yh n
   refine wp_load_mid 51 _ rfl B2 0 (by simpa[Act.eval] using d) FN _ ba.o qG rfl (by kernel_rfl) ?_
   exact ⟨_,rfl,m.o.quiet i.o (by decide) (yg _ _),Fg.refl _ _,rfl⟩
  |14,_=>
   have c:f.getD 38 false=false:=by
    rw[yi];intro h6
    have:=A1 hM.down 40 38 14 (by kernel_rfl) h6
    rw[hM.not_yet g] at this;cases this
   have i:=yb c
   clear c
   obtain rfl:=yh n
   go_simp
   exact ⟨_,rfl,m.o.quiet i.o (by decide) (yg _ _),Fg.refl _ _,rfl⟩
  |15,_=>
   have c:f.getD 38 false=false:=by
    rw[yi];intro h6
    have:=A1 hM.down 40 38 15 (by kernel_rfl) h6
    rw[hM.not_yet g] at this;cases this
   have i:=yb c
   clear c
   have am:=hM.dep g 14 22 (by kernel_rfl) (by kernel_rfl)
   unfold AD at am
   simp only at am
   obtain rfl:=yh n
   go_simp
   exact ⟨_,rfl,m.o.quiet i.o (by decide) (yg _ _),Fg.refl _ _,rfl⟩
  |16,_=>
   have c:f.getD 38 false=false:=by
    rw[yi];intro h6
    have:=A1 hM.down 40 38 16 (by kernel_rfl) h6
    rw[hM.not_yet g] at this;cases this
   have i:=yb c
   clear c
   have X:=hM.dep g 13 21 (by kernel_rfl) (by kernel_rfl)
   unfold AD at X
   simp only at X
   have b4:=hM.dep g 15 23 (by kernel_rfl) (by kernel_rfl)
   unfold AD at b4
   simp only at b4
   obtain rfl:=yh n
   go_simp
   have k:Below w'.heap.size w' (w'.alloc (.cells #[.string ⟨#[104,101,97,100]⟩,.string ⟨#[]⟩,iV 0,iV 1,iV 1,iV 3,.string ⟨#[]⟩,iV 0,.slice none 0 0,iV 2,iV 0,iV 0,.string ⟨#[117]⟩,iV 0,.slice none 0 0,iV 0,iV 0,iV 0,.string ⟨#[]⟩,iV 0,.slice none 0 0,iV 0,iV 0,iV 0,.string ⟨#[]⟩,iV 0,.slice none 0 0,iV 0,iV 0,iV 0,.string ⟨#[]⟩,iV 0,.slice none 0 0,iV 0,iV 0,iV 0,.string ⟨#[]⟩,iV 0,.slice none 0 0,iV 0,iV 0,iV 0,.string ⟨#[]⟩,iV 0,.slice none 0 0,iV 0,iV 0,iV 0,.string ⟨#[]⟩,iV 0,.slice none 0 0,.string ⟨#[116,97,105,108]⟩,.string ⟨#[104,101,97,100]⟩,iV 0,iV 0,iV 0,iV 0,.string ⟨#[]⟩,iV 0,.slice none 0 0,iV 0,iV 0,iV 0,.string ⟨#[]⟩,iV 0,.slice none 0 0,iV 0,iV 0,iV 0,.string ⟨#[]⟩,iV 0,.slice none 0 0,iV 0,iV 0,iV 0,.string ⟨#[]⟩,iV 0,.slice none 0 0,iV 0,iV 0,iV 0,.string ⟨#[]⟩,iV 0,.slice none 0 0,iV 0,iV 0,iV 0,.string ⟨#[]⟩,iV 0,.slice none 0 0,iV 0,iV 0,iV 0,.string ⟨#[]⟩,iV 0,.slice none 0 0,iV 0,iV 0,iV 0,.string ⟨#[]⟩,iV 0,.slice none 0 0] 51)):=(yg _ _).alloc (ye _) _
   have p:B < w'.heap.size:=yp q (m.o.one i.o).size
   exact ⟨_,rfl,m.o.quiet i.o (by decide) k,Fg.below k,w'.heap.size,rfl,p,World.alloc_heap_new _ _⟩
  |17,_=>
   have c:f.getD 38 false=false:=by
    rw[yi];intro h6
    have:=A1 hM.down 40 38 17 (by kernel_rfl) h6
    rw[hM.not_yet g] at this;cases this
   have i:=yb c
   clear c
   obtain rfl:=yh n
   go_simp
   exact ⟨_,rfl,m.o.quiet i.o (by decide) (yg _ _),Fg.refl _ _,rfl⟩
  |18,_=>
   have c:f.getD 38 false=false:=by
    rw[yi];intro h6
    have:=A1 hM.down 40 38 18 (by kernel_rfl) h6
    rw[hM.not_yet g] at this;cases this
   have i:=yb c
   clear c
   obtain rfl:=yh n
   go_simp
   exact ⟨_,rfl,m.o.quiet i.o (by decide) (yg _ _),Fg.refl _ _,rfl⟩
  |19,_=>
   have c:f.getD 38 false=false:=by
    rw[yi];intro h6
    have:=A1 hM.down 40 38 19 (by kernel_rfl) h6
    rw[hM.not_yet g] at this;cases this
   have i:=yb c
   clear c
   have b3:=hM.dep g 17 25 (by kernel_rfl) (by kernel_rfl)
   unfold AD at b3
   simp only at b3
   have ae:=hM.dep g 18 26 (by kernel_rfl) (by kernel_rfl)
   unfold AD at ae
   simp only at ae
   obtain rfl:=yh n
   go_simp
   exact ⟨_,rfl,m.o.quiet i.o (by decide) (yg _ _),Fg.refl _ _,rfl⟩
  |20,_=>
   have c:f.getD 38 false=false:=by
    rw[yi];intro h6
    have:=A1 hM.down 40 38 20 (by kernel_rfl) h6
    rw[hM.not_yet g] at this;cases this
   have i:=yb c
   clear c
   obtain rfl:=yh n
   go_simp
   exact ⟨_,rfl,m.o.quiet i.o (by decide) (yg _ _),Fg.refl _ _,rfl⟩
  |21,_=>
   have c:f.getD 38 false=false:=by
    rw[yi];intro h6
    have:=A1 hM.down 40 38 21 (by kernel_rfl) h6
    rw[hM.not_yet g] at this;cases this
   have i:=yb c
   clear c
   have a6:=hM.dep g 20 28 (by kernel_rfl) (by kernel_rfl)
   unfold AD at a6
   simp only at a6
   obtain rfl:=yh n
   go_simp
   exact ⟨_,rfl,m.o.quiet i.o (by decide) (yg _ _),Fg.refl _ _,rfl⟩
  |22,_=>
   have c:f.getD 38 false=false:=by
    rw[yi];intro h6
    have:=A1 hM.down 40 38 22 (by kernel_rfl) h6
    rw[hM.not_yet g] at this;cases this
   have i:=yb c
   clear c
   have b9:=hM.dep g 19 27 (by kernel_rfl) (by kernel_rfl)
   unfold AD at b9
   simp only at b9
   have au:=hM.dep g 21 29 (by kernel_rfl) (by kernel_rfl)
   unfold AD at au
   simp only at au
   obtain rfl:=yh n
   go_simp
   have k:Below w'.heap.size w' (w'.alloc (.cells #[.string ⟨#[97,110,97]⟩,.string ⟨#[116,97,105,108]⟩,iV 0,.bool false,iV 0,iV 0,iV 0,.string ⟨#[]⟩,iV 0,.slice none 0 0,.string ⟨#[114,105,99,101]⟩,iV 0,.string ⟨#[98,101,97]⟩,.string ⟨#[104,101,97,100]⟩,iV 0,.bool true,iV 0,iV 0,iV 0,.string ⟨#[]⟩,iV 0,.slice none 0 0,.string ⟨#[]⟩,iV 0] 59)):=(yg _ _).alloc (ye _) _
   have p:B < w'.heap.size:=yp q (m.o.one i.o).size
   exact ⟨_,rfl,m.o.quiet i.o (by decide) k,Fg.below k,w'.heap.size,rfl,p,World.alloc_heap_new _ _⟩
  |23,_=>
   have c:f.getD 38 false=false:=by
    rw[yi];intro h6
    have:=A1 hM.down 40 38 23 (by kernel_rfl) h6
    rw[hM.not_yet g] at this;cases this
   have i:=yb c
   clear c
   obtain rfl:=yh n
   go_simp
   exact ⟨_,rfl,m.o.quiet i.o (by decide) (yg _ _),Fg.refl _ _,rfl⟩
  |24,_=>
   have c:f.getD 38 false=false:=by
    rw[yi];intro h6
    have:=A1 hM.down 40 38 24 (by kernel_rfl) h6
    rw[hM.not_yet g] at this;cases this
   have i:=yb c
   clear c
   obtain rfl:=yh n
   go_simp
   exact ⟨_,rfl,m.o.quiet i.o (by decide) (yg _ _),Fg.refl _ _,rfl⟩
  |25,_=>
   have c:f.getD 38 false=false:=by
    rw[yi];intro h6
    have:=A1 hM.down 40 38 25 (by kernel_rfl) h6
    rw[hM.not_yet g] at this;cases this
   have i:=yb c
   clear c
   have ab:=hM.dep g 24 32 (by kernel_rfl) (by kernel_rfl)
   unfold AD at ab
   simp only at ab
   obtain rfl:=yh n
   go_simp
   exact ⟨_,rfl,m.o.quiet i.o (by decide) (yg _ _),Fg.refl _ _,rfl⟩
  |26,_=>
   have c:f.getD 38 false=false:=by
    rw[yi];intro h6
    have:=A1 hM.down 40 38 26 (by kernel_rfl) h6
    rw[hM.not_yet g] at this;cases this
   have i:=yb c
   clear c
   have a7:=hM.dep g 25 33 (by kernel_rfl) (by kernel_rfl)
   unfold AD at a7
   simp only at a7
   obtain rfl:=yh n
   go_simp
   have k:Below w'.heap.size w' (w'.alloc (.cells #[.string ⟨#[97,110,97]⟩,iV 0,iV 0,iV 0,iV 0,.string ⟨#[]⟩,iV 0,.slice none 0 0] 66)):=(yg _ _).alloc (ye _) _
   have p:B < w'.heap.size:=yp q (m.o.one i.o).size
   exact ⟨_,rfl,m.o.quiet i.o (by decide) k,Fg.below k,w'.heap.size,rfl,p,World.alloc_heap_new _ _⟩
  |27,_=>
   have c:f.getD 38 false=false:=by
    rw[yi];intro h6
    have:=A1 hM.down 40 38 27 (by kernel_rfl) h6
    rw[hM.not_yet g] at this;cases this
   have i:=yb c
   clear c
   have ao:=hM.dep g 23 31 (by kernel_rfl) (by kernel_rfl)
   unfold AD at ao
   simp only at ao
   have I:=hM.dep g 26 34 (by kernel_rfl) (by kernel_rfl)
   unfold AD at I
   simp only at I
   obtain ⟨z,I,u⟩:=I
   have C:=yb u
   clear u
   obtain rfl:=yh n
   go_simp
   exact ⟨_,rfl,m.o.quiet i.o (by decide) (yg _ _),Fg.refl _ _,z,rfl,C.o⟩
  |28,_=>
   have c:f.getD 38 false=false:=by
    rw[yi];intro h6
    have:=A1 hM.down 40 38 28 (by kernel_rfl) h6
    rw[hM.not_yet g] at this;cases this
   have i:=yb c
   clear c
   have D:=hM.dep g 27 35 (by kernel_rfl) (by kernel_rfl)
   unfold AD at D
   simp only at D
   obtain ⟨z,D,u⟩:=D
   have C:=yb u
   clear u
   obtain rfl:=yh n
   go_simp
   have k:Below w'.heap.size w' (w'.alloc (.cells #[.string ⟨#[116,117,114,110,115]⟩,.string ⟨#[116,97,105,108]⟩,iV 0,iV 0,iV 0,iV 0,iV 0,.string ⟨#[]⟩,iV 0,.slice none 0 0,iV 0,iV 0,iV 0,.string ⟨#[]⟩,iV 0,.slice none 0 0,iV 0,iV 0,iV 0,.string ⟨#[]⟩,iV 0,.slice none 0 0,.slice (some (aV z 0)) 1 1] 64)):=(yg _ _).alloc (ye _) _
   have p:B < w'.heap.size:=yp q (m.o.one i.o).size
   exact ⟨_,rfl,m.o.quiet i.o (by decide) k,Fg.below k,z,w'.heap.size,rfl,C.o.le (Fg.below k),p,World.alloc_heap_new _ _⟩
  |29,_=>
   have c:f.getD 38 false=false:=by
    rw[yi];intro h6
    have:=A1 hM.down 40 38 29 (by kernel_rfl) h6
    rw[hM.not_yet g] at this;cases this
   have i:=yb c
   clear c
   obtain rfl:=yh n
   go_simp
   exact ⟨_,rfl,m.o.quiet i.o (by decide) (yg _ _),Fg.refl _ _,rfl⟩
  |30,_=>
   have c:f.getD 38 false=false:=by
    rw[yi];intro h6
    have:=A1 hM.down 40 38 30 (by kernel_rfl) h6
    rw[hM.not_yet g] at this;cases this
   have i:=yb c
   clear c
   obtain rfl:=yh n
   go_simp
   exact ⟨_,rfl,m.o.quiet i.o (by decide) (yg _ _),Fg.refl _ _,rfl⟩
  |31,_=>
   have c:f.getD 38 false=false:=by
    rw[yi];intro h6
    have:=A1 hM.down 40 38 31 (by kernel_rfl) h6
    rw[hM.not_yet g] at this;cases this
   have i:=yb c
   clear c
   have ax:=hM.dep g 29 37 (by kernel_rfl) (by kernel_rfl)
   unfold AD at ax
   simp only at ax
   have ad:=hM.dep g 30 38 (by kernel_rfl) (by kernel_rfl)
   unfold AD at ad
   simp only at ad
   obtain rfl:=yh n
   go_simp
   exact ⟨_,rfl,m.o.quiet i.o (by decide) (yg _ _),Fg.refl _ _,rfl⟩
  |32,_=>
   have c:f.getD 38 false=false:=by
    rw[yi];intro h6
    have:=A1 hM.down 40 38 32 (by kernel_rfl) h6
    rw[hM.not_yet g] at this;cases this
   have i:=yb c
   clear c
   have V:=hM.dep g 31 39 (by kernel_rfl) (by kernel_rfl)
   unfold AD at V
   simp only at V
   obtain rfl:=yh n
   go_simp
   have k:Below w'.heap.size w' (w'.alloc (.cells #[iV 2,.string ⟨#[109,105,110,101]⟩,.string ⟨#[98,101,97]⟩,iV 0,.string ⟨#[116,97,105,108]⟩,iV 0,iV 0,iV 0,iV 0,iV 0,.string ⟨#[]⟩,iV 0,.slice none 0 0,iV 0,iV 0,iV 0,.string ⟨#[]⟩,iV 0,.slice none 0 0,iV 0,iV 0,iV 0,.string ⟨#[]⟩,iV 0,.slice none 0 0,iV 0,iV 0,iV 0,.string ⟨#[]⟩,iV 0,.slice none 0 0,iV 0,iV 0,iV 0,.string ⟨#[]⟩,iV 0,.slice none 0 0] 68)):=(yg _ _).alloc (ye _) _
   have p:B < w'.heap.size:=yp q (m.o.one i.o).size
   exact ⟨_,rfl,m.o.quiet i.o (by decide) k,Fg.below k,w'.heap.size,rfl,p,World.alloc_heap_new _ _⟩
  |33,_=>
   have c:f.getD 38 false=false:=by
    rw[yi];intro h6
    have:=A1 hM.down 40 38 33 (by kernel_rfl) h6
    rw[hM.not_yet g] at this;cases this
   have i:=yb c
   clear c
   obtain rfl:=yh n
   go_simp
   exact ⟨_,rfl,m.o.quiet i.o (by decide) (yg _ _),Fg.refl _ _,rfl⟩
  |34,_=>
   have c:f.getD 38 false=false:=by
    rw[yi];intro h6
    have:=A1 hM.down 40 38 34 (by kernel_rfl) h6
    rw[hM.not_yet g] at this;cases this
   have i:=yb c
   clear c
   obtain rfl:=yh n
   go_simp
   exact ⟨_,rfl,m.o.quiet i.o (by decide) (yg _ _),Fg.refl _ _,rfl⟩
  |35,_=>
   have c:f.getD 38 false=false:=by
    rw[yi];intro h6
    have:=A1 hM.down 40 38 35 (by kernel_rfl) h6
    rw[hM.not_yet g] at this;cases this
   have i:=yb c
   clear c
   have U:=hM.dep g 33 41 (by kernel_rfl) (by kernel_rfl)
   unfold AD at U
   simp only at U
   have b5:=hM.dep g 34 42 (by kernel_rfl) (by kernel_rfl)
   unfold AD at b5
   simp only at b5
   obtain rfl:=yh n
   go_simp
   exact ⟨_,rfl,m.o.quiet i.o (by decide) (yg _ _),Fg.refl _ _,rfl⟩
  |36,_=>
   have c:f.getD 38 false=false:=by
    rw[yi];intro h6
    have:=A1 hM.down 40 38 36 (by kernel_rfl) h6
    rw[hM.not_yet g] at this;cases this
   have i:=yb c
   clear c
   have av:=hM.dep g 35 43 (by kernel_rfl) (by kernel_rfl)
   unfold AD at av
   simp only at av
   obtain rfl:=yh n
   go_simp
   have k:Below w'.heap.size w' (w'.alloc (.cells #[.string ⟨#[99,108,101,97,110]⟩,.string ⟨#[98,101,97]⟩,iV 0,.string ⟨#[116,97,105,108]⟩,iV 0,iV 0,iV 0,iV 0,.string ⟨#[]⟩,iV 0,.slice none 0 0] 70)):=(yg _ _).alloc (ye _) _
   have p:B < w'.heap.size:=yp q (m.o.one i.o).size
   exact ⟨_,rfl,m.o.quiet i.o (by decide) k,Fg.below k,w'.heap.size,rfl,p,World.alloc_heap_new _ _⟩
  |37,_=>
   have c:f.getD 38 false=false:=by
    rw[yi];intro h6
    have:=A1 hM.down 40 38 37 (by kernel_rfl) h6
    rw[hM.not_yet g] at this;cases this
   have i:=yb c
   clear c
   have d8:=hM.dep g 0 8 (by kernel_rfl) (by kernel_rfl)
   unfold AD at d8
   simp only at d8
   have G:=hM.dep g 9 17 (by kernel_rfl) (by kernel_rfl)
   unfold AD at G
   simp only at G
   obtain ⟨s,Z,G,r,ap⟩:=G
   have M:=hM.dep g 12 20 (by kernel_rfl) (by kernel_rfl)
   unfold AD at M
   simp only at M
   obtain ⟨b8,M,ak⟩:=M
   have J:=hM.dep g 16 24 (by kernel_rfl) (by kernel_rfl)
   unfold AD at J
   simp only at J
   obtain ⟨ah,J,a1⟩:=J
   have H:=hM.dep g 22 30 (by kernel_rfl) (by kernel_rfl)
   unfold AD at H
   simp only at H
   obtain ⟨ar,H,W⟩:=H
   have O:=hM.dep g 28 36 (by kernel_rfl) (by kernel_rfl)
   unfold AD at O
   simp only at O
   obtain ⟨z,a2,O,u,ag⟩:=O
   have F:=hM.dep g 32 40 (by kernel_rfl) (by kernel_rfl)
   unfold AD at F
   simp only at F
   obtain ⟨an,F,aq⟩:=F
   have P:=hM.dep g 36 44 (by kernel_rfl) (by kernel_rfl)
   unfold AD at P
   simp only at P
   obtain ⟨az,P,aj⟩:=P
   have y:=yb r;have bg:=yb ap;have bq:=yb ak;have bj:=yb a1;have bn:=yb W;have C:=yb u;have be:=yb ag;have bb:=yb aq;have bp:=yb aj
   clear r ap ak a1 W u ag aq aj
   obtain rfl:=yh n
   go_simp
   exact ⟨_,rfl,m.o.quiet i.o (by decide) (yg _ _),Fg.refl _ _,s,Z,b8,ah,ar,z,a2,an,az,rfl,y.o,bg.o,bq.o,bj.o,bn.o,C.o,be.o,bb.o,bp.o⟩
  |38,_=>
   have d:=hM.old g 0 (by kernel_rfl) _ bk
   have c:=hM.not_yet g
   have A:=hM.dep g 37 45 (by kernel_rfl) (by kernel_rfl)
   have HP:=yb A
   obtain ⟨cells,b7,a8,dv⟩:∃cells:Array Value,cells.size=26∧cells.all (·.oneCell')=true∧a.tmps[45]?.getD undef=.agg cells:=by
    unfold AD at A
    simp only at A
    obtain ⟨s,Z,b8,ah,ar,z,a2,an,az,A,_⟩:=A
    exact ⟨_,rfl,by simp[Value.oneCell'],A⟩
   have hb:=m.o.one c
   have bm:w'.heap[B]?=some (.cells row0 35 (0,0)):=(hb.block B q).trans S
   have HL:Hid (38 < f.size):=yb (by rw[bh];show 38 < 39;omega)
   refine wp_store_row 35 (.tmp 0) (.tmp 45) (by obtain rfl:=yh n;rfl) B cells (by simpa[Act.eval] using d) (by simpa[Act.eval] using dv) 35 row0 bm (by rw[b7];kernel_rfl) (by rw[b7];exact N) a8 ?_
   obtain rfl:=yh n
   refine ⟨undef,rfl,⟨fun h6=>?_,fun _=>⟨w',cells,?_,hb,rfl⟩⟩,fun b o bs bd=>?_,trivial⟩
   ·simp[HL.o] at h6
   ·rw[<-dv];exact HP.o
   ·rw[CZ _ _ (by omega)];exact bd
 ·intro f a w' ay hM
  obtain ⟨w1,cells,hp,hb,rfl⟩:=hM.ext.two (ay 38 (show 38 < 39 by omega))
  exact hQ a w1 cells (hM.tmps.trans hz) hM.defers (EZ (lo:=8) (hi:=45) (by kernel_rfl) hM) hp hb
end Go.Proofs.Ytghepahgkcigpaa
