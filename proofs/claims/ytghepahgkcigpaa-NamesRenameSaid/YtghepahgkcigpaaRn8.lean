/- Parts of the proof, in short words: Rl Rn Ro Rp Rr Sa Sb Sc Sd Se Sf Sg Sh Bq Si Ua -/
import Derived.Test.YtghepahgkcigpaaRn0
import Derived.Test.YtghepahgkcigpaaRn7
import Derived.BigFrameIn
set_option maxRecDepth 100000
set_option maxHeartbeats 16000000
set_option linter.unusedSimpArgs false
namespace Go.Proofs.Ytghepahgkcigpaa
open Go.RowKit
theorem Bz.lt{W:World}{b:Nat}{nms:LB}(h:Bz W b nms):b < W.heap.size:=by
 obtain ⟨m,h1,_⟩:=h
 exact (ye.1 h1).1
theorem Wj{Q:QT}{w V:World}{x:Am}{L:Bw}{cs:LV}{N:NP}{bl bc br bf:Nat}(hQ:LK Q w x)(f:Hq w x L cs N V)
 (h1:Bz V bl (x.lets.map (·.name)))(h2:Bz V bc (x.crops.map (·.name)))(h3:Bz V br (x.reaches.map (·.name)))(h4:Bz V bf (x.farms.map (·.name)))
 (hf:B9 x=true)(hw:Ay x=if Dp (Tb.of x) x&&CV (Tb.of x) x then 0 else 170)
 (u0 u8 u9 u10 u11 ep dj u14 u15 u16 d3 ei ec ch dm eo eu d0 cz cm dn dh d2 eh ca cl c8 ej c5 e5 dw dk cr dx bv d1 cu d9 cj bw e4 d6 ct eq e8 er ef cp dd dq cq df dt ci ek e6 ea cw ed ck el ce e3 dy bu em dl d7 et bz d5 dr cn eb ee da co c6 cf dz d8 cv cy dg cd e9 dc cg de c7 db c9 en a7 a8 bm ae F aw be bi aq n am a2 B M av an A ay S ai m ar l a1 au bn b4 b9 X aj i bj p bo U R ao bh bp ac ba k J O ad bd v bb r z P az I C bg u s W q aa b5 y E b3 ah af t bt ap ax H ak G ag:Value):
  Hb 11 Try.prog (CJ 17 (Try.f11.body.getD .skip)) Q {tmps:=#[u0,.pointer (some ⟨w.heap.size,0,none⟩),.pointer (some ⟨w.heap.size+1,0,none⟩),.pointer (some ⟨w.heap.size+2,0,none⟩),.pointer (some ⟨bl,0,none⟩),.pointer (some ⟨bc,0,none⟩),.pointer (some ⟨br,0,none⟩),.pointer (some ⟨bf,0,none⟩),u8,u9,u10,u11,ep,dj,u14,u15,u16,d3,ei,ec,ch,dm,eo,eu,d0,cz,cm,dn,dh,d2,eh,ca,cl,c8,ej,c5,e5,dw,dk,cr,dx,bv,d1,cu,d9,cj,bw,e4,d6,ct,eq,e8,er,ef,cp,dd,dq,cq,df,dt,ci,ek,e6,ea,cw,ed,ck,el,ce,e3,dy,bu,em,dl,d7,et,bz,d5,dr,cn,eb,ee,da,co,c6,cf,dz,d8,cv,cy,dg,cd,e9,dc,cg,de,c7,db,c9,en,a7,a8,bm,ae,F,aw,be,bi,aq,n,am,a2,B,M,av,an,A,ay,S,ai,m,ar,l,a1,au,bn,b4,b9,X,aj,i,bj,p,bo,U,R,ao,bh,bp,ac,ba,k,J,O,ad,bd,v,bb,r,z,P,az,I,C,bg,u,s,W,q,aa,b5,y,E,b3,ah,af,t,bt,ap,ax,H,ak,G,ag],defers:=[Kc w.heap.size]} V:=by
 have e7:Hid ((Try.prog.info? 35).map (·.size)=some cs.length):=yb (by rw[f.len];kernel_rfl)
 have a0:=yb f.range
 have c3:=yb f.at
 have HQ:=yb hQ;have HP:=yb f
 have d4:=yb h1;have ev:=yb h2;have al:=yb h3;have cx:=yb h4;have HF:=yb hf;have HW:=yb hw
 obtain ⟨row,b,hx⟩:=f.amid.x
 have HX:=yb hx;have b8:=yb b;have HZ:=yb f.size
 clear hQ f h1 h2 h3 h4 hf hw b hx
 unfold Kc
 refine Ah (A7 ?_)
 go_upto_region 25 with fail
 refine xi ?_
 refine ym rfl 35 _ rfl w.heap.size 0 rfl cs _ a0.o qM rfl e7.o ?_
 refine yG rfl fun K hK=>?_
 go_simp
 refine (Qs c3.o (fun _ h=>h) HP.o.slim).mono ?_
 rintro e w2 ⟨L2,a,rfl,Y,c,g,Z,bq,a6⟩
 have du:=yb ((g.block _ (by have:=HZ.o;omega)).trans HX.o)
 have d:=yb Y;have T:=yb (yV c);have j:=yb g;have di:=yb Z;have cc:=yb bq;have dv:=yb a6
 clear Y c g Z bq a6
 refine hK _ _ ?_
 clear hK K
 refine yZ rfl 35 _ _ rfl (w.heap.size+1) a.toArray rfl rfl 35 row du.o (by rw[yD,d.o];kernel_rfl) (by simp[d.o,b8.o]) T.o ?_
 refine xG ?_
 simp only[]
 refine Ah (A7 ?_)
 go_wp2
 have HC:=Wd HP.o d4.o ev.o al.o cx.o HF.o HW.o d.o j.o di.o cc.o dv.o
 have eg:(w2.setRow (w.heap.size+1) a.toArray).heap.size=w2.heap.size:=Gn _ _ _
 have D:((w2.setRow (w.heap.size+1) a.toArray).alloc Kx).heap.size=w2.heap.size+1:=by simp[eg]
 have ew:=j.o.size
 have ey:=al.o.lt
 rw[<-D] at HC
 exact Wi (V:=(w2.setRow (w.heap.size+1) a.toArray).alloc Kx) (Bf:=w2.heap.size) HQ.o HC ⟨rfl,RJ.start _ _ _ _⟩ (by omega) (by omega) (by simp) _ _ _ _ _ _ _ _ _ _ _ _ _ _ _ _ _ _ _ _ _ _ _ _ _ _ _ _ _ _ _ _ _ _ _ _ _ _ _ _ _ _ _ _ _ _ _ _ _ _ _ _ _ _ _ _ _ _ _ _ _ _ _ _ _ _ _ _ _ _ _ _ _ _ _ _ _ _ _ _ _ _ _ _ _ _ _ _ _ _ _ _ _ _ _ _ _ _ _ _ _ _ _ _ _ _ _ _ _ _ _ _ _ _ _ _ _ _ _ _ _ _ _ _ _ _ _ _ _ _ _ _ _ _ _ _ _ _ _ _ _ _ _ _ _ _ _ _ _ _ _ _ _ _ _ _ _ _ _ _ _ _ _ _ _ _ _
end Go.Proofs.Ytghepahgkcigpaa
namespace Go.Proofs.Ytghepahgkcigpaa
open Go.RowKit
theorem Bz.up{V W:World}{b:Nat}{nms:LB}(h:Bz V b nms)(hb:Below V.heap.size V W):Bz W b nms:=
 h.same fun c _ hc _=>hb.block c (ye.1 hc).1
theorem X7{Q:QT}{w V:World}{x:Am}{L:Bw}{cs:LV}{N:NP}{bl bc br bf:Nat}(hQ:LK Q w x)(hP:Hq w x L cs N V)
 (h1:Bz V bl (x.lets.map (·.name)))(h2:Bz V bc (x.crops.map (·.name)))(h3:Bz V br (x.reaches.map (·.name)))(h4:Bz V bf (x.farms.map (·.name)))
 (hf:B9 x=true)(hw:Ay x=if (CH x).Nodup∧(x.duties.map (·.name)).Nodup then (if Dp (Tb.of x) x&&CV (Tb.of x) x then 0 else 170) else 171)
 (u0 u8 u9 u10 u11 fz ez u14 u15 u16 eh fq fk dt f2 fy g4 ee ed dx f3 ey eg fp dl dy dj fs dh fe f7 f0 e6 f8 dd ef e8 eo dv de fd el e7 g0 fg g2 fo e4 et f4 e5 ev f6 du ft ff fi e9 fl dw fu dn fc fa db fv f1 em g3 df ek f5 dz fj fm ep e3 dg dq fb en ea ec ew dm fh er dr eu di eq dk fx c3 c5 d7 c9 bb cp d2 d5 cl ao ch bz b3 bj co ci b4 cr bp ce an cm am bw cn d8 cv cy bv cf ai d6 ap d9 bt bo cj d4 da c7 cz al bi bm c8 d1 ax d0 ar az bn ct bh b5 d3 aw au bu aq c6 cw ay b8 cu cd ca av b9 ck cq be cg bd cc:Value):
  Hb 11 Try.prog (CJ 12 (Try.f11.body.getD .skip)) Q {tmps:=#[u0,.pointer (some ⟨w.heap.size,0,none⟩),.pointer (some ⟨w.heap.size+1,0,none⟩),.pointer (some ⟨w.heap.size+2,0,none⟩),.pointer (some ⟨bl,0,none⟩),.pointer (some ⟨bc,0,none⟩),.pointer (some ⟨br,0,none⟩),.pointer (some ⟨bf,0,none⟩),u8,u9,u10,u11,fz,ez,u14,u15,u16,eh,fq,fk,dt,f2,fy,g4,ee,ed,dx,f3,ey,eg,fp,dl,dy,dj,fs,dh,fe,f7,f0,e6,f8,dd,ef,e8,eo,dv,de,fd,el,e7,g0,fg,g2,fo,e4,et,f4,e5,ev,f6,du,ft,ff,fi,e9,fl,dw,fu,dn,fc,fa,db,fv,f1,em,g3,df,ek,f5,dz,fj,fm,ep,e3,dg,dq,fb,en,ea,ec,ew,dm,fh,er,dr,eu,di,eq,dk,fx,c3,c5,d7,c9,bb,cp,d2,d5,cl,ao,ch,bz,b3,bj,co,ci,b4,cr,bp,ce,an,cm,am,bw,cn,d8,cv,cy,bv,cf,ai,d6,ap,d9,bt,bo,cj,d4,da,c7,cz,al,bi,bm,c8,d1,ax,d0,ar,az,bn,ct,bh,b5,d3,aw,au,bu,aq,c6,cw,ay,b8,cu,cd,ca,av,b9,ck,cq,be,cg,bd,cc],defers:=[Kc w.heap.size]} V:=by
 have aa:=yb (hP.at.nms fun _ h=>h)
 have Y:=yb hP.cells
 have HZ:Hid (w.heap.size < V.heap.size):=yb (by have:=hP.size;omega)
 have HQ:=yb hQ;have HP:=yb hP;have l:=yb hP.slim
 have ej:=yb h1;have g5:=yb h2;have f9:=yb h3;have eb:=yb h4;have HF:=yb hf;have HW:=yb hw
 have W:Hid (∀tm wr,Mq w.heap.size tm->Below V.heap.size V wr->¬ ((CH x).Nodup∧(x.duties.map (·.name)).Nodup)->Q (.panic (F9 171)) {tmps:=tm,defers:=[Kc w.heap.size]} wr):=yb (fun tm wr hv hb hn=>by
  rw[yu hn] at hw
  have:=hQ.fail tm wr hv (hP.up (hb.mono hP.size)).amid (by rw[hw];decide)
  rw[hw] at this;exact this)
 have X:Hid (E2 V.heap.size V (.slice none 0 0) ([]++(x.rots.map (fun d:B6=>d.name)).take 0)):=yb (GX _ _)
 have J:=yb (yg V.heap.size V)
 have hc:V.cell? (aV w.heap.size 23)=some (.slice L.rots.a L.rots.n L.rots.c):=hP.cells.rots
 have j:=aa.o.rots
 generalize L.rots=rr at hc j
 obtain ⟨ra,rn,rc⟩:=rr
 have g:=yb j.2.2
 have s:=yb j.1
 have g6:rn<=140737488355328:=by have:=j.1;have:=j.2.1;simp only at*;omega
 simp only at hc g s
 clear hQ hP h1 h2 h3 h4 hf hw j
 unfold Kc
 iterate 2
  refine Ah (A7 ?_)
  go_wp2
 clear hc
 go_loopw [8,58] (fun v8 iv wr=>∃i:Nat,i<=rn∧iv=iV i∧Hid (E2 V.heap.size wr v8 ([]++(x.rots.map (fun d:B6=>d.name)).take i))∧Hid (Below V.heap.size V wr)) (fun _ iv _=>rn - (intOf iv).toNat)
 case atStart=>exact ⟨0,yC _,rfl,X,J⟩
 case round=>
  clear X J
  obtain ⟨i,hi,rfl,HO,B⟩:=hrel
  by_cases M:i < rn
  ·obtain ⟨b,o,f,ha,hb,q,P,A,H,D⟩:=g.o i (by rw[<-s.o];exact M)
   subst ha
   have HL:=yb q
   have ae:=yb (A2 P (B.o.block b hb))
   have T:=yb (yV A)
   have I:Hid ((Try.prog.info? 64).map (·.size)=some f.length):=yb (by rw[q];kernel_rfl)
   have O:Hid ((Try.prog.info? 64).map (·.size)=some f.toArray.size):=yb (by rw[yD];exact I.o)
   have C:i < (x.rots.map (fun d:B6=>d.name)).length:=by rw[<-s.o];exact M
   generalize R:(x.rots.map (fun d:B6=>d.name))[i]=nm at H D
   have dc:(wr.alloc (.cells f.toArray 64)).cell? (aV wr.heap.size 0)=some (.string nm):=by
    have h:=World.alloc_heap_new wr (.cells f.toArray 64)
    simp only[World.cell?,h]
    simpa using H
   have F:Hid (Below wr.heap.size wr ((wr.alloc (.cells f.toArray 64)).alloc (.cells #[.string nm] 9))):=yb (((yg _ _).alloc (yf _) _).alloc (by simp) _)
   have E:=yb (HO.o.up F.o)
   have ac:=yb (B.o.trans (F.o.mono B.o.size))
   have S:Hid (((wr.alloc (.cells f.toArray 64)).alloc (.cells #[.string nm] 9)).heap[wr.heap.size+1]?=some (.cells #[.string nm] 9 (0,0))):=yb (by
    have h:=World.alloc_heap_new (wr.alloc (.cells f.toArray 64)) (.cells #[.string nm] 9)
    simpa using h)
   have a7:=yb D
   have y:Hid (([]++(x.rots.map (fun d:B6=>d.name)).take i).length+1<=1000000):=yb (by
    have h1:=l.o.rots;have h2:=l.o.rights
    simp only[yq,yP,yN,yM] at C ⊢
    omega)
   have r:Hid (V.heap.size<=((wr.alloc (.cells f.toArray 64)).alloc (.cells #[.string nm] 9)).heap.size):=yb (yl B.o.size F.o.size)
   have k:Hid (([]++(x.rots.map (fun d:B6=>d.name)).take i)++[nm]=[]++(x.rots.map (fun d:B6=>d.name)).take (i+1)):=yb (by
    rw[yp,<-R,J7 C])
   have U:(i:Int) < (rn:Int):=by omega
   generalize ah:[]++(x.rots.map (fun d:B6=>d.name)).take i=ls at HO E y k
   clear q P A H D C R ah hb
   go_wp2_with (first|(refine ym rfl 64 _ rfl b (o+i*23) rfl f _ ae.o qX rfl I.o ?_)|(refine yZ rfl 64 _ _ rfl wr.heap.size f.toArray rfl rfl 64 _ (World.alloc_heap_new _ _) O.o (by simp[HL.o]) T.o ?_;rw[World.setRow_alloc_new])|(at_builtin;refine CE V.heap.size rfl _ _ rfl u8 ls rfl E.o (wr.heap.size+1) 1 nm rfl S.o a7.o y.o r.o ?_;intro ad c w5 t Z;have af:=yb t;have a8:=yb (JB ac.o r.o E.o Z);clear t Z))
   exact ⟨⟨i+1,by omega,by push_cast;rfl,yb (by rw[<-k.o];exact af.o),a8⟩,by simp[intOf];omega⟩
  ·obtain rfl:i=rn:=by omega
   have U:decide ((i:Int) < (i:Int))=false:=by simp
   have a1:Hid (E2 V.heap.size wr u8 (x.rots.map (fun d:B6=>d.name)++(x.rights.map (fun d:AG=>d.name)).take 0)):=yb (by
    have h:=HO.o
    rw[s.o,yx] at h
    simpa using h)
   clear HO g s
   go_wp2
   have hc:wr.cell? (aV w.heap.size 24)=some (.slice L.rights.a L.rights.n L.rights.c):=(B.o.cell (p:=(aV w.heap.size 24)) HZ.o).trans Y.o.rights
   have j:=aa.o.rights
   generalize L.rights=rr at hc j
   obtain ⟨ra,rn,rc⟩:=rr
   have g:=yb j.2.2
   have s:=yb j.1
   have ei:rn<=140737488355328:=by have:=j.1;have:=j.2.1;simp only at*;omega
   simp only at hc g s
   clear j U
   refine Ah (A7 ?_)
   go_wp2
   clear hc
   obtain ⟨wo,rfl⟩:∃z:World,z=wr:=⟨_,rfl⟩
   obtain ⟨vo,rfl⟩:∃z:Value,z=u8:=⟨_,rfl⟩
   have X:=a1
   have J:=B
   clear a1 B
   go_loopw [8,71] (fun v8 iv wr=>∃i:Nat,i<=rn∧iv=iV i∧Hid (E2 V.heap.size wr v8 ((x.rots.map (fun d:B6=>d.name))++(x.rights.map (fun d:AG=>d.name)).take i))∧Hid (Below V.heap.size V wr)) (fun _ iv _=>rn - (intOf iv).toNat)
   case atStart=>exact ⟨0,yC _,rfl,X,J⟩
   case round=>
    clear X J
    obtain ⟨i,hi,rfl,HO,B⟩:=hrel
    by_cases M:i < rn
    ·obtain ⟨b,o,f,ha,hb,q,P,A,H,D⟩:=g.o i (by rw[<-s.o];exact M)
     subst ha
     have HL:=yb q
     have ae:=yb (A2 P (B.o.block b hb))
     have T:=yb (yV A)
     have I:Hid ((Try.prog.info? 68).map (·.size)=some f.length):=yb (by rw[q];kernel_rfl)
     have O:Hid ((Try.prog.info? 68).map (·.size)=some f.toArray.size):=yb (by rw[yD];exact I.o)
     have C:i < (x.rights.map (fun d:AG=>d.name)).length:=by rw[<-s.o];exact M
     generalize R:(x.rights.map (fun d:AG=>d.name))[i]=nm at H D
     have dc:(wr.alloc (.cells f.toArray 68)).cell? (aV wr.heap.size 1)=some (.string nm):=by
      have h:=World.alloc_heap_new wr (.cells f.toArray 68)
      simp only[World.cell?,h]
      simpa using H
     have F:Hid (Below wr.heap.size wr ((wr.alloc (.cells f.toArray 68)).alloc (.cells #[.string nm] 9))):=yb (((yg _ _).alloc (yf _) _).alloc (by simp) _)
     have E:=yb (HO.o.up F.o)
     have ac:=yb (B.o.trans (F.o.mono B.o.size))
     have S:Hid (((wr.alloc (.cells f.toArray 68)).alloc (.cells #[.string nm] 9)).heap[wr.heap.size+1]?=some (.cells #[.string nm] 9 (0,0))):=yb (by
      have h:=World.alloc_heap_new (wr.alloc (.cells f.toArray 68)) (.cells #[.string nm] 9)
      simpa using h)
     have a7:=yb D
     have y:Hid (((x.rots.map (fun d:B6=>d.name))++(x.rights.map (fun d:AG=>d.name)).take i).length+1<=1000000):=yb (by
      have h1:=l.o.rots;have h2:=l.o.rights
      simp only[yq,yP,yN] at C ⊢
      omega)
     have r:Hid (V.heap.size<=((wr.alloc (.cells f.toArray 68)).alloc (.cells #[.string nm] 9)).heap.size):=yb (yl B.o.size F.o.size)
     have k:Hid (((x.rots.map (fun d:B6=>d.name))++(x.rights.map (fun d:AG=>d.name)).take i)++[nm]=(x.rots.map (fun d:B6=>d.name))++(x.rights.map (fun d:AG=>d.name)).take (i+1)):=yb (by
      rw[yp,<-R,J7 C])
     have U:(i:Int) < (rn:Int):=by omega
     generalize ah:(x.rots.map (fun d:B6=>d.name))++(x.rights.map (fun d:AG=>d.name)).take i=ls at HO E y k
     clear q P A H D C R ah hb
     go_wp2_with (first|(refine ym rfl 68 _ rfl b (o+i*37) rfl f _ ae.o qZ rfl I.o ?_)|(refine yZ rfl 68 _ _ rfl wr.heap.size f.toArray rfl rfl 68 _ (World.alloc_heap_new _ _) O.o (by simp[HL.o]) T.o ?_;rw[World.setRow_alloc_new])|(at_builtin;refine CE V.heap.size rfl _ _ rfl u8 ls rfl E.o (wr.heap.size+1) 1 nm rfl S.o a7.o y.o r.o ?_;intro ad c w5 t Z;have af:=yb t;have a8:=yb (JB ac.o r.o E.o Z);clear t Z))
     exact ⟨⟨i+1,by omega,by push_cast;rfl,yb (by rw[<-k.o];exact af.o),a8⟩,by simp[intOf];omega⟩
    ·obtain rfl:i=rn:=by omega
     have U:decide ((i:Int) < (i:Int))=false:=by simp
     have a1:Hid (E2 V.heap.size wr u8 (CH x)):=yb (by
      have h:=HO.o
      rw[s.o,yx] at h
      exact h)
     clear HO g s
     go_wp2
     have bg:(CH x).length<=100000:=by
      obtain ⟨_,_,_,_,h1,h2,_⟩:=Fg HF.o
      unfold CH
      simp only[yq,yN]
      omega
     obtain ⟨⟨sa,sn,sc⟩,ag,ba⟩:=a1.o.nm (by omega)
     unfold Ai.v at ag
     simp only at ag
     subst ag
     have cx:=yb ba
     have aj:=yb bg
     have ak:Hid ((x.duties.map (·.name)).length<=100000):=yb (by rw[yN];exact l.o.duties)
     clear a1 ba bg U
     by_cases a6:(CH x).Nodup
     ·have HR:=yb a6
      clear a6
      refine Ah (A7 ?_)
      go_wp2_with (first|(go_at_call 46;refine (TT (MU (h:=⟨sa,sn,sc⟩) cx.o aj.o) HR.o).mono ?_;rintro e w2 ⟨⟨m,rfl⟩,a0⟩;have u:=yb (B.o.trans (a0.mono B.o.size));clear a0))
      have hc:w2.cell? (aV w.heap.size 25)=some (.slice L.duties.a L.duties.n L.duties.c):=(u.o.cell (p:=(aV w.heap.size 25)) HZ.o).trans Y.o.duties
      have bq:=yb (aa.o.duties.up u.o)
      by_cases a2:(x.duties.map (·.name)).Nodup
      ·have HD:=yb a2
       clear a2
       refine Ah (A7 ?_)
       go_wp2_with (first|(go_at_call 47;refine (TT (Lz bq.o ak.o) HD.o).mono ?_;rintro e w3 ⟨⟨m3,rfl⟩,K⟩;have G:=yb (u.o.trans (K.mono u.o.size));clear K))
       exact Wj HQ.o (HP.o.up (G.o.mono HP.o.size)) (ej.o.up G.o) (g5.o.up G.o) (f9.o.up G.o) (eb.o.up G.o) HF.o (by rw[HW.o,yw ⟨HR.o,HD.o⟩]) _ _ _ _ _ _ _ _ _ _ _ _ _ _ _ _ _ _ _ _ _ _ _ _ _ _ _ _ _ _ _ _ _ _ _ _ _ _ _ _ _ _ _ _ _ _ _ _ _ _ _ _ _ _ _ _ _ _ _ _ _ _ _ _ _ _ _ _ _ _ _ _ _ _ _ _ _ _ _ _ _ _ _ _ _ _ _ _ _ _ _ _ _ _ _ _ _ _ _ _ _ _ _ _ _ _ _ _ _ _ _ _ _ _ _ _ _ _ _ _ _ _ _ _ _ _ _ _ _ _ _ _ _ _ _ _ _ _ _ _ _ _ _ _ _ _ _ _ _ _ _ _ _ _ _ _ _ _ _ _ _ _ _ _ _ _ _
      ·have HD:=yb a2
       clear a2
       refine Ah (A7 ?_)
       go_wp2_with (first|(go_at_call 47;refine (VS (Lz bq.o ak.o) HD.o).mono ?_;rintro e w3 ⟨rfl,K⟩;have G:=yb (u.o.trans (K.mono u.o.size));clear K))
       exact W.o _ _ ⟨rfl,rfl⟩ G.o (fun h=>HD.o h.2)
     ·have HR:=yb a6
      clear a6
      refine Ah (A7 ?_)
      go_wp2_with (first|(go_at_call 46;refine (VS (MU (h:=⟨sa,sn,sc⟩) cx.o aj.o) HR.o).mono ?_;rintro e w2 ⟨rfl,a0⟩;have u:=yb (B.o.trans (a0.mono B.o.size));clear a0))
      exact W.o _ _ ⟨rfl,rfl⟩ u.o (fun h=>HR.o h.1)
 end Go.Proofs.Ytghepahgkcigpaa
namespace Go.Proofs.Ytghepahgkcigpaa
open Go.RowKit
theorem X8{Q:QT}{w V:World}{x:Am}{L:Bw}{cs:LV}{N:NP}(hQ:LK Q w x)(hP:Hq w x L cs N V)
 (hf:B9 x=true)(hw:Ay x=if Eu x then (if Dp (Tb.of x) x&&CV (Tb.of x) x then 0 else 170) else 171)
 (u0 u4 u5 u6 u7 u8 u9 u10 u11 e4 d3 u14 u15 u16 cq du dn c9 d6 e3 e6 cn cm ce d7 d2 cp dt c3 cd bw dv bu di db d4 ci dc bo co em eo ei eh ep en el eu eq ev et ej cy d8 ch d0 da ca dw dj dl ck dq cc dx c6 dh dd bn dy d5 ct e5 bp cr d9 cf dm dr cv cg bq c7 de cu cj cl d1 c5 dk cx c8 cz bv cw bz dz Y Z bb a6 E an b3 ba ai j af X A J am ag z ap P ac i ak g U al be ar aw T ad d bd l bg R O ah b9 bh a1 ax f I K a2 az u ay n y M aq H C b8 s q S m a0 au v D av aa a7 r bi aj ao F ae G a8:Value):
  Hb 11 Try.prog (CJ 11 (Try.f11.body.getD .skip)) Q {tmps:=#[u0,.pointer (some ⟨w.heap.size,0,none⟩),.pointer (some ⟨w.heap.size+1,0,none⟩),.pointer (some ⟨w.heap.size+2,0,none⟩),u4,u5,u6,u7,u8,u9,u10,u11,e4,d3,u14,u15,u16,cq,du,dn,c9,d6,e3,e6,cn,cm,ce,d7,d2,cp,dt,c3,cd,bw,dv,bu,di,db,d4,ci,dc,bo,co,em,eo,ei,eh,ep,en,el,eu,eq,ev,et,ej,cy,d8,ch,d0,da,ca,dw,dj,dl,ck,dq,cc,dx,c6,dh,dd,bn,dy,d5,ct,e5,bp,cr,d9,cf,dm,dr,cv,cg,bq,c7,de,cu,cj,cl,d1,c5,dk,cx,c8,cz,bv,cw,bz,dz,Y,Z,bb,a6,E,an,b3,ba,ai,j,af,X,A,J,am,ag,z,ap,P,ac,i,ak,g,U,al,be,ar,aw,T,ad,d,bd,l,bg,R,O,ah,b9,bh,a1,ax,f,I,K,a2,az,u,ay,n,y,M,aq,H,C,b8,s,q,S,m,a0,au,v,D,av,aa,a7,r,bi,aj,ao,F,ae,G,a8],defers:=[Kc w.heap.size]} V:=by
 have bj:=yb (hP.at.nms fun _ h=>h)
 have c:=yb hP.cells
 have HZ:Hid (w.heap.size < V.heap.size):=yb (by have:=hP.size;omega)
 have HQ:=yb hQ;have HP:=yb hP;have b:=yb hP.slim
 have HF:=yb hf;have HW:=yb hw
 have dg:Hid (∀tm wr,Mq w.heap.size tm->Below V.heap.size V wr->¬ Eu x->Q (.panic (F9 171)) {tmps:=tm,defers:=[Kc w.heap.size]} wr):=yb (fun tm wr hv hb hn=>by
  rw[yu hn] at hw
  have:=hQ.fail tm wr hv (hP.up (hb.mono hP.size)).amid (by rw[hw];decide)
  rw[hw] at this;exact this)
 clear hQ hP hf hw
 unfold Kc
 refine Ah (A7 ?_)
 go_wp2_with fail
 refine X6 (B:=w.heap.size) (h0:=L.lets) (h1:=L.crops) (h2:=L.reaches) (h3:=L.farms) (n0s:=x.lets.map (·.name)) (n1s:=x.crops.map (·.name)) (n2s:=x.reaches.map (·.name)) (n3s:=x.farms.map (·.name)) _ ?_ ?_ ?_ ?_ ?_ ?_ ?_ ?_ ?_ ?_ ?_ ?_ ?_ ?_
 ·rfl
 ·rfl
 ·rfl
 ·exact fun W hb=>⟨(hb.cell (p:=(aV w.heap.size 19)) HZ.o).trans c.o.lets,(hb.cell (p:=(aV w.heap.size 20)) HZ.o).trans c.o.crops,(hb.cell (p:=(aV w.heap.size 21)) HZ.o).trans c.o.reaches,(hb.cell (p:=(aV w.heap.size 22)) HZ.o).trans c.o.farms⟩
 ·exact fun W hb=>bj.o.lets.up hb
 ·exact fun W hb=>bj.o.crops.up hb
 ·exact fun W hb=>bj.o.reaches.up hb
 ·exact fun W hb=>bj.o.farms.up hb
 ·rw[yN];exact b.o.lets
 ·rw[yN];exact b.o.crops
 ·rw[yN];exact b.o.reaches
 ·rw[yN];exact b.o.farms
 ·intro a W bt bm hb hn
  obtain ⟨tm,df⟩:=a
  obtain rfl:df=[Kc w.heap.size]:=bt
  exact dg.o tm W ⟨(bm 2 (by omega)).trans rfl,(bm 3 (by omega)).trans rfl⟩ hb (fun h=>hn ⟨h.1,h.2.1,h.2.2.1,h.2.2.2.1⟩)
 ·intro a W bl bc br bf ek bt bm g4 g5 g6 g7 m4 m5 m6 m7 b4 b5 b6 b7 hb hn
  have e:a={tmps:=#[u0,pV w.heap.size 0,pV (w.heap.size+1) 0,pV (w.heap.size+2) 0,(a.tmps.getD 4 undef),(a.tmps.getD 5 undef),(a.tmps.getD 6 undef),(a.tmps.getD 7 undef),u8,u9,u10,u11,e4,d3,u14,u15,u16,cq,du,dn,c9,d6,e3,e6,cn,cm,ce,d7,d2,cp,dt,c3,cd,bw,dv,bu,di,db,d4,ci,dc,bo,co,(a.tmps.getD 43 undef),(a.tmps.getD 44 undef),(a.tmps.getD 45 undef),(a.tmps.getD 46 undef),(a.tmps.getD 47 undef),(a.tmps.getD 48 undef),(a.tmps.getD 49 undef),(a.tmps.getD 50 undef),(a.tmps.getD 51 undef),(a.tmps.getD 52 undef),(a.tmps.getD 53 undef),(a.tmps.getD 54 undef),cy,d8,ch,d0,da,ca,dw,dj,dl,ck,dq,cc,dx,c6,dh,dd,bn,dy,d5,ct,e5,bp,cr,d9,cf,dm,dr,cv,cg,bq,c7,de,cu,cj,cl,d1,c5,dk,cx,c8,cz,bv,cw,bz,dz,Y,Z,bb,a6,E,an,b3,ba,ai,j,af,X,A,J,am,ag,z,ap,P,ac,i,ak,g,U,al,be,ar,aw,T,ad,d,bd,l,bg,R,O,ah,b9,bh,a1,ax,f,I,K,a2,az,u,ay,n,y,M,aq,H,C,b8,s,q,S,m,a0,au,v,D,av,aa,a7,r,bi,aj,ao,F,ae,G,a8],defers:=[Kc w.heap.size]}:=(KX [4,5,6,7,43,44,45,46,47,48,49,50,51,52,53,54] (ek.trans rfl) bt (fun t ht=>bm t ht)).trans (by kernel_rfl)
  rw[g4,g5,g6,g7] at e
  obtain ⟨e9,ea,ef,v46,e8,eb,ec,eg,v51,ed,ee,e7,rfl⟩:∃e9 ea ef v46 e8 eb ec eg v51 ed ee e7:Value,a={tmps:=#[u0,pV w.heap.size 0,pV (w.heap.size+1) 0,pV (w.heap.size+2) 0,pV bl 0,pV bc 0,pV br 0,pV bf 0,u8,u9,u10,u11,e4,d3,u14,u15,u16,cq,du,dn,c9,d6,e3,e6,cn,cm,ce,d7,d2,cp,dt,c3,cd,bw,dv,bu,di,db,d4,ci,dc,bo,co,e9,ea,ef,v46,e8,eb,ec,eg,v51,ed,ee,e7,cy,d8,ch,d0,da,ca,dw,dj,dl,ck,dq,cc,dx,c6,dh,dd,bn,dy,d5,ct,e5,bp,cr,d9,cf,dm,dr,cv,cg,bq,c7,de,cu,cj,cl,d1,c5,dk,cx,c8,cz,bv,cw,bz,dz,Y,Z,bb,a6,E,an,b3,ba,ai,j,af,X,A,J,am,ag,z,ap,P,ac,i,ak,g,U,al,be,ar,aw,T,ad,d,bd,l,bg,R,O,ah,b9,bh,a1,ax,f,I,K,a2,az,u,ay,n,y,M,aq,H,C,b8,s,q,S,m,a0,au,v,D,av,aa,a7,r,bi,aj,ao,F,ae,G,a8],defers:=[Kc w.heap.size]}:=⟨_,_,_,_,_,_,_,_,_,_,_,_,e⟩
  have er:Ay x=if (CH x).Nodup∧(x.duties.map (·.name)).Nodup then (if Dp (Tb.of x) x&&CV (Tb.of x) x then 0 else 170) else 171:=by
   rw[HW.o]
   by_cases h:Eu x
   ·rw[yw h];exact (yw ⟨h.2.2.2.2.1,h.2.2.2.2.2⟩).symm
   ·rw[yu h];exact (yu (fun k=>h ⟨hn.1,hn.2.1,hn.2.2.1,hn.2.2.2,k.1,k.2⟩)).symm
  exact X7 HQ.o (HP.o.up (hb.mono HP.o.size)) m4 m5 m6 m7 HF.o er _ _ _ _ _ _ _ _ _ _ _ _ _ _ _ _ _ _ _ _ _ _ _ _ _ _ _ _ _ _ _ _ _ _ _ _ _ _ _ _ _ _ _ _ _ _ _ _ _ _ _ _ _ _ _ _ _ _ _ _ _ _ _ _ _ _ _ _ _ _ _ _ _ _ _ _ _ _ _ _ _ _ _ _ _ _ _ _ _ _ _ _ _ _ _ _ _ _ _ _ _ _ _ _ _ _ _ _ _ _ _ _ _ _ _ _ _ _ _ _ _ _ _ _ _ _ _ _ _ _ _ _ _ _ _ _ _ _ _ _ _ _ _ _ _ _ _ _ _ _ _ _ _ _ _ _ _ _ _ _ _ _ _ _ _ _ _
theorem Wk{w:World}{nm:ByteArray}(a:nm.size<=maxLen):AW (w.alloc (.cells #[.string nm] 9)) ⟨some ⟨w.heap.size,0,none⟩,1,1⟩ 1 0 [nm]:=by
 refine ⟨rfl,by simp,fun i hi=>?_⟩
 obtain rfl:i=0:=by simpa using hi
 have h:=World.alloc_heap_new w (.cells #[.string nm] 9)
 refine ⟨w.heap.size,0,[.string nm],rfl,by simp,rfl,Cn ?_,by simp[Value.oneCell'],rfl,a⟩
 simp only[World.cell?,h]
 rfl
theorem Il{f:FuncId}{args:Array Value}{w:World}{b:Bool}(h:Calls Try.prog f args w (DM w b))(hb:b=true):Calls Try.prog f args w fun e w'=>e=.returned (.tuple #[])∧Below w.heap.size w w':=
 h.mono fun e w' a=>by rw[hb] at a;exact ⟨a.2,a.1⟩
theorem Kz{f:FuncId}{args:Array Value}{w:World}{b:Bool}(h:Calls Try.prog f args w (DM w b))(hb:b=false):Calls Try.prog f args w fun e w'=>e=.panicked (F9 170)∧Below w.heap.size w w':=
 h.mono fun e w' a=>by rw[hb] at a;exact ⟨a.2,a.1⟩
theorem U6{f:FuncId}{args:Array Value}{w:World}{b c:Bool}(h:Calls Try.prog f args w (NH w b))(hb:b=c):Calls Try.prog f args w (NH w c):=hb▸h
theorem Xa{Q:QT}{w V:World}{x:Am}{L:Bw}{cs:LV}{N:NP}(hQ:LK Q w x)(W:Hq w x L cs N V)(hg:GV V)(hd:∀e∈AN x,AJ e.1<=1000000)
 (u0 u4 u5 u6 u7 u8 u9 u10 u11 fq er u14 u15 u16 ed fi fd dn ev fp fv ea e9 dv ew eq ec fh di du df fj dd f7 f1 et e3 f2 d9 eb e5 ei dr da f6 ef e4 fs f9 ft fg dy em ey dz eo f0 dq fk f8 fb e7 fe dt fl dk f5 f3 d8 fm eu eg fu db ee ez dw fc ff ej dx dc dl f4 eh e6 e8 ep dj fa el dm en de ek dg fo bt bu d2 c3 b3 cl cy d0 ch ag cd bq au bb ck ce ar co bj c9 af ci ae bp cj d3 cr cu bo ca ac d1 ah d4 bm bh cf cz d5 bw cv ad ba bd bz cx ao cw ak aq bg cp b9 ax d6 an al bn aj bv ct ap az cq c8 c5 am d7 cg cm b5 cc b4 c6:Value):
  Hb 11 Try.prog (CJ 2 (Try.f11.body.getD .skip)) Q {tmps:=#[u0,.pointer (some ⟨w.heap.size,0,none⟩),.pointer (some ⟨w.heap.size+1,0,none⟩),.pointer (some ⟨w.heap.size+2,0,none⟩),u4,u5,u6,u7,u8,u9,u10,u11,fq,er,u14,u15,u16,ed,fi,fd,dn,ev,fp,fv,ea,e9,dv,ew,eq,ec,fh,di,du,df,fj,dd,f7,f1,et,e3,f2,d9,eb,e5,ei,dr,da,f6,ef,e4,fs,f9,ft,fg,dy,em,ey,dz,eo,f0,dq,fk,f8,fb,e7,fe,dt,fl,dk,f5,f3,d8,fm,eu,eg,fu,db,ee,ez,dw,fc,ff,ej,dx,dc,dl,f4,eh,e6,e8,ep,dj,fa,el,dm,en,de,ek,dg,fo,bt,bu,d2,c3,b3,cl,cy,d0,ch,ag,cd,bq,au,bb,ck,ce,ar,co,bj,c9,af,ci,ae,bp,cj,d3,cr,cu,bo,ca,ac,d1,ah,d4,bm,bh,cf,cz,d5,bw,cv,ad,ba,bd,bz,cx,ao,cw,ak,aq,bg,cp,b9,ax,d6,an,al,bn,aj,bv,ct,ap,az,cq,c8,c5,am,d7,cg,cm,b5,cc,b4,c6],defers:=[Kc w.heap.size]} V:=by
 have E:=yb (W.at.nms fun _ h=>h)
 have f:=yb W.cells
 have U:Hid (w.heap.size < V.heap.size):=yb (by have:=W.size;omega)
 have HQ:=yb hQ;have HP:=yb W;have D:=yb hg
 have HS:Hid (Bb (fun b=>b < V.heap.size) V {L with s:=w.heap.size} cs x):=yb (by have h:=W.at;exact ⟨h.name,h.cells,h.lets,h.crops,h.reaches,h.farms,h.rots,h.rights,h.duties⟩)
 have a2:=yb W.range
 have HD:=yb hd
 have aa:Hid (x.name.size<=maxLen):=yb W.src.name
 have P:Hid (∀(c:Int) tm wr,Mq w.heap.size tm->Below V.heap.size V wr->Ay x=c->c≠0->Q (.panic (F9 c)) {tmps:=tm,defers:=[Kc w.heap.size]} wr):=yb (fun c tm wr hv hb hc hn=>by
  subst hc
  exact hQ.fail tm wr hv (W.up (hb.mono W.size)).amid hn)
 clear hQ W hg hd
 unfold Kc
 cases hf:B9 x with
 |false=>
  have HF:=yb hf
  clear hf
  refine Ah (A7 ?_)
  go_wp2_with (first|(go_at_call 25;refine (U6 (Kv HS.o a2.o (fun _ h=>h) U.o HD.o) HF.o).mono ?_;rintro e w2 ⟨T,rfl⟩;have F:=yb T;clear T))
  exact P.o 2 _ _ ⟨rfl,rfl⟩ F.o (by unfold Ay;rw[HF.o];rfl) (by decide)
 |true=>
  have HF:=yb hf
  clear hf
  have d:Hid (∀tm wr,Mq w.heap.size tm->Below V.heap.size V wr->Cs x=false->Q (.panic (F9 170)) {tmps:=tm,defers:=[Kc w.heap.size]} wr):=yb (fun tm wr hv hb hn=>P.o 170 tm wr hv hb (by unfold Ay;rw[HF.o,hn];rfl) (by decide))
  refine Ah (A7 ?_)
  go_wp2_with (first|(go_at_call 25;refine (U6 (Kv HS.o a2.o (fun _ h=>h) U.o HD.o) HF.o).mono ?_;rintro e w2 ⟨T,rfl⟩;have F:=yb T;clear T))
  have hc:w2.cell? (aV w.heap.size 0)=some (.string x.name):=(F.o.cell (p:=(aV w.heap.size 0)) U.o).trans f.o.name
  have bi:Hid (AW (w2.alloc (.cells #[.string x.name] 9)) ⟨some (aV w2.heap.size 0),1,1⟩ 1 0 [x.name]):=yb (Wk aa.o)
  have O:Hid (Below V.heap.size V (w2.alloc (.cells #[.string x.name] 9))):=yb (F.o.alloc F.o.size _)
  have b8:Hid (GV (w2.alloc (.cells #[.string x.name] 9))):=yb (D.o.below O.o D.o.1)
  cases X:AH x.name with
  |false=>
   have z:=yb X
   clear X
   refine Ah (A7 ?_)
   go_wp2_with (first|(go_at_call 26;refine (Kz (MB (h:=⟨some (aV w2.heap.size 0),1,1⟩) bi.o b8.o) (by simp[z.o])).mono ?_;rintro e w3 ⟨rfl,I⟩;have l:=yb (O.o.trans (I.mono O.o.size));clear I))
   exact d.o _ _ ⟨rfl,rfl⟩ l.o (by unfold Cs;rw[z.o];simp)
  |true=>
   have z:=yb X
   clear X
   refine Ah (A7 ?_)
   go_wp2_with (first|(go_at_call 26;refine (Il (MB (h:=⟨some (aV w2.heap.size 0),1,1⟩) bi.o b8.o) (by simp[z.o])).mono ?_;rintro e w3 ⟨rfl,I⟩;have l:=yb (O.o.trans (I.mono O.o.size));clear I))
   clear hc
   have hc:w3.cell? (aV w.heap.size 19)=some (.slice L.lets.a L.lets.n L.lets.c):=(l.o.cell (p:=(aV w.heap.size 19)) U.o).trans f.o.lets
   have Z:=yb (E.o.lets.up l.o)
   have ai:Hid (GV w3):=yb (D.o.below l.o D.o.1)
   cases hk:(x.lets.map (·.name)).all AH with
   |false=>
    have u:=yb hk
    clear hk
    refine Ah (A7 ?_)
    go_wp2_with (first|(go_at_call 28;refine (Kz (Mz Z.o ai.o) u.o).mono ?_;rintro e w4 ⟨rfl,R⟩;have q:=yb (l.o.trans (R.mono l.o.size));clear R))
    exact d.o _ _ ⟨rfl,rfl⟩ q.o (by unfold Cs;rw[u.o];simp)
   |true=>
    have u:=yb hk
    clear hk
    refine Ah (A7 ?_)
    go_wp2_with (first|(go_at_call 28;refine (Il (Mz Z.o ai.o) u.o).mono ?_;rintro e w4 ⟨rfl,R⟩;have q:=yb (l.o.trans (R.mono l.o.size));clear R))
    clear hc
    have hc:w4.cell? (aV w.heap.size 20)=some (.slice L.crops.a L.crops.n L.crops.c):=(q.o.cell (p:=(aV w.heap.size 20)) U.o).trans f.o.crops
    have a8:=yb (E.o.crops.up q.o)
    have av:Hid (GV w4):=yb (D.o.below q.o D.o.1)
    cases hk:(x.crops.map (·.name)).all AH with
    |false=>
     have C:=yb hk
     clear hk
     refine Ah (A7 ?_)
     go_wp2_with (first|(go_at_call 30;refine (Kz (Lj a8.o av.o) C.o).mono ?_;rintro e w5 ⟨rfl,H⟩;have m:=yb (q.o.trans (H.mono q.o.size));clear H))
     exact d.o _ _ ⟨rfl,rfl⟩ m.o (by unfold Cs;rw[C.o];simp)
    |true=>
     have C:=yb hk
     clear hk
     refine Ah (A7 ?_)
     go_wp2_with (first|(go_at_call 30;refine (Il (Lj a8.o av.o) C.o).mono ?_;rintro e w5 ⟨rfl,H⟩;have m:=yb (q.o.trans (H.mono q.o.size));clear H))
     clear hc
     have hc:w5.cell? (aV w.heap.size 21)=some (.slice L.reaches.a L.reaches.n L.reaches.c):=(m.o.cell (p:=(aV w.heap.size 21)) U.o).trans f.o.reaches
     have Y:=yb (E.o.reaches.up m.o)
     have be:Hid (GV w5):=yb (D.o.below m.o D.o.1)
     cases hk:(x.reaches.map (·.name)).all AH with
     |false=>
      have y:=yb hk
      clear hk
      refine Ah (A7 ?_)
      go_wp2_with (first|(go_at_call 32;refine (Kz (Kr Y.o be.o) y.o).mono ?_;rintro e w6 ⟨rfl,G⟩;have k:=yb (m.o.trans (G.mono m.o.size));clear G))
      exact d.o _ _ ⟨rfl,rfl⟩ k.o (by unfold Cs;rw[y.o];simp)
     |true=>
      have y:=yb hk
      clear hk
      refine Ah (A7 ?_)
      go_wp2_with (first|(go_at_call 32;refine (Il (Kr Y.o be.o) y.o).mono ?_;rintro e w6 ⟨rfl,G⟩;have k:=yb (m.o.trans (G.mono m.o.size));clear G))
      clear hc
      have hc:w6.cell? (aV w.heap.size 22)=some (.slice L.farms.a L.farms.n L.farms.c):=(k.o.cell (p:=(aV w.heap.size 22)) U.o).trans f.o.farms
      have a0:=yb (E.o.farms.up k.o)
      have cn:Hid (GV w6):=yb (D.o.below k.o D.o.1)
      cases hk:(x.farms.map (·.name)).all AH with
      |false=>
       have B:=yb hk
       clear hk
       refine Ah (A7 ?_)
       go_wp2_with (first|(go_at_call 34;refine (Kz (Lk a0.o cn.o) B.o).mono ?_;rintro e w7 ⟨rfl,J⟩;have i:=yb (k.o.trans (J.mono k.o.size));clear J))
       exact d.o _ _ ⟨rfl,rfl⟩ i.o (by unfold Cs;rw[B.o];simp)
      |true=>
       have B:=yb hk
       clear hk
       refine Ah (A7 ?_)
       go_wp2_with (first|(go_at_call 34;refine (Il (Lk a0.o cn.o) B.o).mono ?_;rintro e w7 ⟨rfl,J⟩;have i:=yb (k.o.trans (J.mono k.o.size));clear J))
       clear hc
       have hc:w7.cell? (aV w.heap.size 23)=some (.slice L.rots.a L.rots.n L.rots.c):=(i.o.cell (p:=(aV w.heap.size 23)) U.o).trans f.o.rots
       have a1:=yb (E.o.rots.up i.o)
       have aw:Hid (GV w7):=yb (D.o.below i.o D.o.1)
       cases hk:(x.rots.map (·.name)).all AH with
       |false=>
        have v:=yb hk
        clear hk
        refine Ah (A7 ?_)
        go_wp2_with (first|(go_at_call 36;refine (Kz (MA a1.o aw.o) v.o).mono ?_;rintro e w8 ⟨rfl,S⟩;have j:=yb (i.o.trans (S.mono i.o.size));clear S))
        exact d.o _ _ ⟨rfl,rfl⟩ j.o (by unfold Cs;rw[v.o];simp)
       |true=>
        have v:=yb hk
        clear hk
        refine Ah (A7 ?_)
        go_wp2_with (first|(go_at_call 36;refine (Il (MA a1.o aw.o) v.o).mono ?_;rintro e w8 ⟨rfl,S⟩;have j:=yb (i.o.trans (S.mono i.o.size));clear S))
        clear hc
        have hc:w8.cell? (aV w.heap.size 24)=some (.slice L.rights.a L.rights.n L.rights.c):=(j.o.cell (p:=(aV w.heap.size 24)) U.o).trans f.o.rights
        have a7:=yb (E.o.rights.up j.o)
        have ay:Hid (GV w8):=yb (D.o.below j.o D.o.1)
        cases hk:(x.rights.map (·.name)).all AH with
        |false=>
         have A:=yb hk
         clear hk
         refine Ah (A7 ?_)
         go_wp2_with (first|(go_at_call 38;refine (Kz (Ks a7.o ay.o) A.o).mono ?_;rintro e w9 ⟨rfl,K⟩;have g:=yb (j.o.trans (K.mono j.o.size));clear K))
         exact d.o _ _ ⟨rfl,rfl⟩ g.o (by unfold Cs;rw[A.o];simp)
        |true=>
         have A:=yb hk
         clear hk
         refine Ah (A7 ?_)
         go_wp2_with (first|(go_at_call 38;refine (Il (Ks a7.o ay.o) A.o).mono ?_;rintro e w9 ⟨rfl,K⟩;have g:=yb (j.o.trans (K.mono j.o.size));clear K))
         clear hc
         have hc:w9.cell? (aV w.heap.size 25)=some (.slice L.duties.a L.duties.n L.duties.c):=(g.o.cell (p:=(aV w.heap.size 25)) U.o).trans f.o.duties
         have a6:=yb (E.o.duties.up g.o)
         have c7:Hid (GV w9):=yb (D.o.below g.o D.o.1)
         cases hk:(x.duties.map (·.name)).all AH with
         |false=>
          have r:=yb hk
          clear hk
          refine Ah (A7 ?_)
          go_wp2_with (first|(go_at_call 40;refine (Kz (Ll a6.o c7.o) r.o).mono ?_;rintro e dh ⟨rfl,t⟩;have M:=yb (g.o.trans (t.mono g.o.size));clear t))
          exact d.o _ _ ⟨rfl,rfl⟩ M.o (by unfold Cs;rw[r.o];simp)
         |true=>
          have r:=yb hk
          clear hk
          refine Ah (A7 ?_)
          go_wp2_with (first|(go_at_call 40;refine (Il (Ll a6.o c7.o) r.o).mono ?_;rintro e dh ⟨rfl,t⟩;have M:=yb (g.o.trans (t.mono g.o.size));clear t))
          clear hc
          have hn:Cs x=true:=by
           unfold Cs
           rw[z.o,u.o,C.o,y.o,B.o,v.o,A.o,r.o]
           rfl
          exact X8 HQ.o (HP.o.up (M.o.mono HP.o.size)) HF.o (by unfold Ay;rw[HF.o,hn];rfl) _ _ _ _ _ _ _ _ _ _ _ _ _ _ _ _ _ _ _ _ _ _ _ _ _ _ _ _ _ _ _ _ _ _ _ _ _ _ _ _ _ _ _ _ _ _ _ _ _ _ _ _ _ _ _ _ _ _ _ _ _ _ _ _ _ _ _ _ _ _ _ _ _ _ _ _ _ _ _ _ _ _ _ _ _ _ _ _ _ _ _ _ _ _ _ _ _ _ _ _ _ _ _ _ _ _ _ _ _ _ _ _ _ _ _ _ _ _ _ _ _ _ _ _ _ _ _ _ _ _ _ _ _ _ _ _ _ _ _ _ _ _ _ _ _ _ _ _ _ _ _ _ _ _ _ _ _ _ _ _ _ _ _ _ _ _ _ _ _ _ _
def XA(w:World)(cs:LV):World:=((w.alloc (.cells cs.toArray 35)).alloc (.cells A5.toArray 35)).alloc (.cells #[.int .i64 0] 38)
theorem Vm{w:World}{x:Am}{L:Bw}{cs:LV}{N:NP}(h:Bb N w L cs x)(hN:∀b,N b->b < w.heap.size)(a:Ih x):Hq w x L cs N (XA w cs):=by
 unfold XA
 refine ⟨⟨(((yg _ _).alloc (yf _) _).alloc (by simp) _).alloc (by simp;omega) _,⟨A5.toArray,rfl,?_⟩,⟨iV 0,?_⟩⟩,?_,h,hN,a⟩
 ·rw[yF _ _ _ (by simp)]
  have:=World.alloc_heap_new (w.alloc (.cells cs.toArray 35)) (.cells A5.toArray 35)
  rwa [zB] at this
 ·have:=World.alloc_heap_new ((w.alloc (.cells cs.toArray 35)).alloc (.cells A5.toArray 35)) (.cells #[iV 0] 38)
  rwa [zB,zB] at this
 ·rw[yF _ _ _ (by simp;omega),yF _ _ _ (by simp)]
  exact World.alloc_heap_new _ _
theorem Ej{w:World}{x:Am}{L:Bw}{cs:LV}{N:NP}(h:Bb N w L cs x)(hN:∀b,N b->b < w.heap.size)(a:Ih x)(f:GV w)(hd:∀e∈AN x,AJ e.1<=1000000):
  Calls Try.prog 11 #[.agg cs.toArray] w (FJ w x):=by
 have k:∀(fn:Fn) (first cap:Array Value) (w:World),(Instr.makeFunc fn first cap).run Try.prog w=.ok (.func fn first cap) w:=fun _ _ _ _=>rfl
 have c:=yb (Vm h hN a)
 have i:Hid (GV (XA w cs)):=yb (f.below c.o.amid.below f.1)
 have l:=yb hd
 obtain ⟨c0,c1,c2,rfl,g,g1,j⟩:=h.cells
 obtain ⟨p,s,rfl,e0⟩:=g.cells
 obtain ⟨r,p1,rfl,e1⟩:=g1.cells
 obtain ⟨q,p2,rfl,e2⟩:=j.cells
 clear h hN a f hd g g1 j e0 e1 e2
 unfold Ai.v at*
 simp only[z8,zk] at c i ⊢
 refine Cv (n:=10) Try.func11 rfl ?_
 have d:=TQ w x
 generalize bodyPostM Fence.wide 10 Try.prog Try.f11 (FJ w x)=Q at d ⊢
 have m:=yb d
 clear d
 simp only[Try.ntmps11,yD,yI,yM,Nat.reduceAdd,Nat.reduceSub,zO,zP,xe,zU,zk,z8]
 iterate 2
  refine Ah (A7 ?_)
  go_wp2
 exact Xa m.o c.o i.o l.o _ _ _ _ _ _ _ _ _ _ _ _ _ _ _ _ _ _ _ _ _ _ _ _ _ _ _ _ _ _ _ _ _ _ _ _ _ _ _ _ _ _ _ _ _ _ _ _ _ _ _ _ _ _ _ _ _ _ _ _ _ _ _ _ _ _ _ _ _ _ _ _ _ _ _ _ _ _ _ _ _ _ _ _ _ _ _ _ _ _ _ _ _ _ _ _ _ _ _ _ _ _ _ _ _ _ _ _ _ _ _ _ _ _ _ _ _ _ _ _ _ _ _ _ _ _ _ _ _ _ _ _ _ _ _ _ _ _ _ _ _ _ _ _ _ _ _ _ _ _ _ _ _ _ _ _ _ _ _ _ _ _ _ _ _ _ _ _ _ _ _
instance:DecidableEq Rf:=fun a b=>decidable_of_iff (a.name=b.name∧a.n=b.n) (by cases a;cases b;simp)
def NW(u:Us):Rf:=⟨u.name,u.n⟩
mutual
def Na:Ex->List Rf
 |.mk _ _ _ rn ri args=>⟨rn,ri⟩::Im args
def Im:List Ex->List Rf
 |[]=> []
 |e::r=>Na e++Im r
end
def IP(e:KD):List Rf:=if CQ e.1 then [] else Na e.1
def Io(d:Bd):List Rf:=[d.on,d.crop]
def JF(d:B6):List Rf:=d.on::d.turns.flatMap fun k=> [k.farm]
def H6(d:AG):List Rf:=[d.farm,d.reach]
def Ip(d:BR):List Rf:=[d.farm,d.reach]
def Bl(x:Am):List Rf:=(AN x).flatMap IP++(((x.farms.flatMap Io++x.rots.flatMap JF)++x.rights.flatMap H6)++x.duties.flatMap Ip)
def DH(x:Am):List Rf:=Bl x++x.reaches.map (·.frm)
def FC(x:Am):Int:=if Ay x=0 then (if DH x=DH (Ab x) then 0 else 170) else Ay x
def VV(N:NP)(s b:Nat):Prop:=b=s∨N b
structure M1 (N:Nat->Prop) (s:Nat) (w:World) (u:Us):Prop where
 inS:VV N s u.b
 name:w.cell? ⟨u.b,u.o,none⟩=some (.string u.name)
 n:w.cell? ⟨u.b,u.o+1,none⟩=some (.int .i64 u.n)
def CB(K:NP)(p:Addr):Prop:=∃b q,p=⟨b,q,none⟩∧K b
def DB(K:NP)(w:World)(p:Addr):Prop:=∃b q,p=⟨b,q,none⟩∧K b∧∃z,w.cell? ⟨b,q,none⟩=some (.int .i64 z)
theorem Pd{K:NP}{w V:World}(h:∀b,K b->V.heap[b]?=w.heap[b]?):Xq w (CB K) (DB K w) V:=by
 constructor
 ·rintro p ⟨b,q,rfl,hk⟩;exact Ag (h b hk)
 ·rintro p ⟨b,q,rfl,hk,z,a⟩;exact ⟨z,(Ag (h b hk)).trans a⟩
section
variable{N K:NP}{w:World}{s:Nat}
mutual
theorem Nb(lt:Int):∀(e:Ex) (b o:Nat) (cs:LV),VV N s b->AS N w e cs->w.rangeAt b o cs->(∀u∈(Cx w lt e b o).1,M1 N s w u)∧((Cx w lt e b o).2=true->(Cx w lt e b o).1.map NW=Na e)
 |.mk op n u rn ri args,b,o,cs,hb,hv,hr=>by
  rw[AS] at hv
  obtain ⟨a,cap,rfl,h2,h3,h4⟩:=hv
  obtain ⟨r0,r1,r2,g,f,r5⟩:=BJ hr
  obtain ⟨i,h⟩:=Nc lt args a args.length cap 0 h4
  rw[Cx]
  by_cases hs:ND op args.length=true
  ·rw[yw hs,r5]
   refine ⟨fun v c=>?_,fun d=>?_⟩
   ·rcases yK.1 c with rfl|c
    ·exact ⟨hb,g,f⟩
    ·exact i v c
   ·rw[Na,zZ,h d];rfl
  ·rw[yu hs]
   exact ⟨fun v c=>(by cases c),fun d=>(by cases d)⟩
theorem Nc(lt:Int):∀(l:List Ex) (a:Option Addr) (n cap i:Nat),DK N w a i l->(∀u∈(BN w lt l (some (.slice a n cap)) i).1,M1 N s w u)∧((BN w lt l (some (.slice a n cap)) i).2=true->(BN w lt l (some (.slice a n cap)) i).1.map NW=Im l)
 |[],a,n,cap,i,h=>by rw[BN];exact ⟨fun v c=>(by cases c),fun _=>rfl⟩
 |e::r,a,n,cap,i,h=>by
  rw[DK] at h
  obtain ⟨⟨b,o,cs,rfl,h1,h2,h3⟩,h5⟩:=h
  obtain ⟨e1,e2⟩:=Nb lt e b (o+i*6) cs (.inr h1) h3 h2
  obtain ⟨g,f⟩:=Nc lt r (some ⟨b,o,none⟩) n cap (i+1) h5
  rw[BN]
  by_cases hk:(Cx w lt e b (o+i*6)).2=true
  ·simp only[hk,zX]
   refine ⟨fun v c=>(yi.1 c).elim (e1 v) (g v),fun d=>?_⟩
   rw[zb,e2 hk,f d,Im]
  ·simp only[hk]
   refine ⟨fun v c=>e1 v (by simpa using c),fun d=>absurd d (by simp)⟩
end
mutual
theorem U7(hN:∀b,N b->K b):∀(e:Ex) (b o:Nat) (cs:LV),K b->AS N w e cs->w.rangeAt b o cs->S5 w (CB K) e b o
 |.mk op n u rn ri args,b,o,cs,hb,hv,hr=>by
  rw[AS] at hv
  obtain ⟨a,cap,rfl,h2,h3,h4⟩:=hv
  obtain ⟨r0,r1,r2,d,c,r5⟩:=BJ hr
  rw[S5]
  exact ⟨a,cap,⟨r0,_,_,rfl,hb⟩,⟨r5,_,_,rfl,hb⟩,h2,Rt hN args a 0 h4⟩
theorem Rt(hN:∀b,N b->K b):∀(l:List Ex) (a:Option Addr) (i:Nat),DK N w a i l->KE w (CB K) a i l
 |[],a,i,h=>by rw[KE];trivial
 |e::r,a,i,h=>by
  rw[DK] at h
  rw[KE]
  obtain ⟨⟨b,o,cs,rfl,h1,h2,h3⟩,h5⟩:=h
  exact ⟨⟨b,o,rfl,U7 hN e b (o+i*6) cs (hN b h1) h3 h2⟩,Rt hN r _ (i+1) h5⟩
end
end
theorem Nd:∀ {l:List (List Us × Bool)},(BY l).2=true->(BY l).1=l.flatMap (·.1)∧∀p∈l,p.2=true
 |[],_=>by simp[BY]
 |y::r,h=>by
  have e:BY (y::r)=if y.2 then (y.1++(BY r).1,(BY r).2) else (y.1,false):=rfl
  rw[e] at h ⊢
  by_cases h1:y.2=true
  ·rw[yw h1] at h ⊢
   obtain ⟨a,c⟩:=Nd h
   exact ⟨by rw[zv,<-a],fun p b=>(yK.1 b).elim (fun e=>e▸h1) (c p)⟩
  ·rw[yu h1] at h;cases h
theorem G8{α:Type}{l:List α}{n:Nat}(b:n=l.length){F:Nat->List Us}{f:α->List Rf}(h:∀i (hi:i < l.length),(F i).map NW=f l[i]):((List.range n).flatMap F).map NW=l.flatMap f:=by
 have a:∀k,k<=l.length->((List.range k).flatMap F).map NW=(l.take k).flatMap f:=by
  intro k
  induction k with
  |zero=>simp
  |succ k ih=>
   intro hk
   rw[Ar,zb,ih (by omega),h k (by omega),yt (by omega),zG]
   simp
 rw[b,a _ (yf _),yx]
section
variable{N:NP}{w:World}{L:Bw}{cs:LV}{x:Am}
theorem Pe{s:Nat}:∀ {l:List (Array Value)} {m:List KD},Az (Xv N s w) l m->(∀p∈List.zipWith (CO w) l m,∀u∈p.1,M1 N s w u)∧((∀p∈List.zipWith (CO w) l m,p.2=true)->((List.zipWith (CO w) l m).flatMap (·.1)).map NW=m.flatMap IP)
 |[],[],_=>⟨fun p f=>(by cases f),fun _=>rfl⟩
 |a::l,e::m,hA=>by
  rw[Az] at hA
  obtain ⟨⟨b,o,c,rfl,hb,j,i⟩,h2⟩:=hA
  obtain ⟨n,k⟩:=Pe h2
  obtain ⟨e1,e2⟩:=Nb e.2 e.1 b o c hb i j
  have d:(∀u∈(CO w #[.pointer (some ⟨b,o,none⟩),.int .i64 e.2] e).1,M1 N s w u)∧((CO w #[.pointer (some ⟨b,o,none⟩),.int .i64 e.2] e).2=true->(CO w #[.pointer (some ⟨b,o,none⟩),.int .i64 e.2] e).1.map NW=IP e):=by
   unfold CO IP
   by_cases hl:CQ e.1=true
   ·simp[hl]
   ·rw[yu hl,yu hl];exact ⟨e1,e2⟩
  rw[xX]
  refine ⟨fun p f=>(yK.1 f).elim (fun h=>h▸d.1) (n p),fun g=>?_⟩
  rw[zv,zb,d.2 (g _ (by simp)),k (fun p f=>g p (by simp[f])),zv]
 |[],_::_,hA=>by simp[Az] at hA
 |_::_,[],hA=>by simp[Az] at hA
theorem Fj{h:Ai}{b o sz i off:Nat}{cs0 p q:LV}{r:Rf}{s:Nat}(to at_:Int)(d:h.a=some ⟨b,o,none⟩)(hN:N b)(c:w.rangeAt b (o+i*sz) cs0)(hc:cs0=p++(An r++q))(e:p.length=off):M1 N s w (Dv (h.at sz i off) to at_ r):=by
 subst hc
 have h1:=AO c
 rw[e] at h1
 unfold Dv
 rw[Be d]
 exact ⟨.inr hN,h1 0 _ rfl,h1 1 _ rfl⟩
theorem QB(h:Bb N w L cs x):(∀u∈CD L x,M1 N L.s w u)∧(CD L x).map NW=((x.farms.flatMap Io++x.rots.flatMap JF)++x.rights.flatMap H6)++x.duties.flatMap Ip:=by
 constructor
 ·intro u a
  unfold CD at a
  simp only[yi] at a
  rcases a with ((a|a)|a)|a
  ·obtain ⟨i,hi,a⟩:=yQ.1 a
   have hl:i < x.farms.length:=by rw[<-h.farms.1];exact z6.1 hi
   obtain ⟨b,o,c,g1,g,m,e,_,_,_,c1,rfl,n⟩:=h.farms.2.2 i hl
   unfold EO at a
   rw[yk hl] at a
   simp only[yK,zp,xv] at a
   generalize x.farms[i]=d at*
   rcases a with rfl|rfl
   ·exact Fj (p:=[.string d.name]) _ _ g1 g e rfl rfl
   ·exact Fj (p:=.string d.name::(An d.on++(.bool d.river::c1))) (q:=[]) _ _ g1 g e (by simp) (by simp[A8,n.len])
  ·obtain ⟨i,hi,a⟩:=yQ.1 a
   have hl:i < x.rots.length:=by rw[<-h.rots.1];exact z6.1 hi
   obtain ⟨b,o,c,g1,g,m,e,_,_,c0,c1,c2,rfl,v,r,t,l⟩:=h.rots.2.2 i hl
   unfold Hi at a
   rw[yk hl] at a
   generalize x.rots[i]=d at*
   rcases yK.1 a with rfl|a
   ·exact Fj (p:=[.string d.name]) _ _ g1 g e rfl rfl
   ·obtain ⟨k,hk,a⟩:=yQ.1 a
    have j:k < d.turns.length:=by rw[<-l.1];exact z6.1 hk
    obtain ⟨b,o,c,g1,g,m,e,_,c1,rfl,n⟩:=l.2.2 k j
    unfold FF at a
    rw[yk j] at a
    simp only[yK,zp,xv] at a
    rw[a]
    exact Fj (p:=[]) _ _ g1 g e rfl rfl
  ·obtain ⟨i,hi,a⟩:=yQ.1 a
   have hl:i < x.rights.length:=by rw[<-h.rights.1];exact z6.1 hi
   obtain ⟨b,o,c,g1,g,m,e,_,_,_,c0,c1,c2,y,c4,rfl,_⟩:=h.rights.2.2 i hl
   unfold Dn at a
   rw[yk hl] at a
   simp only[yK,zp,xv] at a
   generalize x.rights[i]=d at*
   rcases a with rfl|rfl
   ·exact Fj (p:=[iV d.kind,.string d.name]) _ _ g1 g e rfl rfl
   ·exact Fj (p:=iV d.kind::.string d.name::An d.farm) _ _ g1 g e rfl rfl
  ·obtain ⟨i,hi,a⟩:=yQ.1 a
   have hl:i < x.duties.length:=by rw[<-h.duties.1];exact z6.1 hi
   obtain ⟨b,o,c,g1,g,m,e,_,_,_,c0,rfl,_⟩:=h.duties.2.2 i hl
   unfold Er at a
   rw[yk hl] at a
   simp only[yK,zp,xv] at a
   generalize x.duties[i]=d at*
   rcases a with rfl|rfl
   ·exact Fj (p:=[.string d.name]) _ _ g1 g e rfl rfl
   ·exact Fj (p:=.string d.name::An d.farm) _ _ g1 g e rfl rfl
 ·unfold CD
  rw[zb,zb,zb,G8 h.farms.1 (f:=Io) fun i hi=>?_,G8 h.rots.1 (f:=JF) fun i hi=>?_,G8 h.rights.1 (f:=H6) fun i hi=>?_,G8 h.duties.1 (f:=Ip) fun i hi=>?_]
  ·unfold Er;rw[yk hi];rfl
  ·unfold Dn;rw[yk hi];rfl
  ·obtain ⟨_,_,_,_,_,_,_,_,_,_,_,_,_,_,_,_,l⟩:=h.rots.2.2 i hi
   unfold Hi;rw[yk hi]
   simp only[zZ]
   rw[G8 l.1 (f:=fun k:Bv=> [k.farm]) fun k hk=>?_]
   ·rfl
   ·unfold FF;rw[yk hk];rfl
  ·unfold EO;rw[yk hi];rfl
theorem Nf(h:Bb N w L cs x)(g:w.rangeAt L.s 0 cs):(∀u∈(Cp w L x).1,M1 N L.s w u)∧((Cp w L x).2=true->(Cp w L x).1.map NW=Bl x):=by
 obtain ⟨d,i⟩:=Pe (Ja h g)
 obtain ⟨e,f⟩:=QB h
 constructor
 ·intro u b
  obtain ⟨p,a,b⟩:=Jz b
  unfold EU at a
  rcases yi.1 a with a|a
  ·exact d p a u b
  ·simp only[zh] at a
   rw[a] at b
   simp only at b
   split at b
   ·exact e u b
   ·cases b
 ·intro c
  obtain ⟨s1,s2⟩:=Nd c
  unfold Cp
  rw[s1]
  unfold EU
  have hk:Co x=true:=by
   have:=s2 (if Co x then CD L x else [],Co x) (by unfold EU;simp)
   exact this
  rw[zG,zb]
  unfold Ea
  rw[i (fun p a=>s2 p (by unfold EU Ea;simp[a]))]
  simp only[zv,zQ,zt,hk,zX]
  rw[f];rfl
theorem NX(h:Bb N w L cs x)(a:B9 x=true):(CD L x).length<=1000000:=by
 obtain ⟨p,e,l,f,j,g,m,d,_⟩:=Fg a
 unfold CD
 simp only[yq]
 have e1:((List.range L.farms.n).flatMap (EO L.farms x.farms)).length<=L.farms.n*2:=Gm _ fun i=>by unfold EO;split<;>simp
 have e2:((List.range L.rots.n).flatMap (Hi L x.rots)).length<=L.rots.n*66:=OX _ fun i hi=>by
  have hl:i < x.rots.length:=by rw[<-h.rots.1];exact hi
  obtain ⟨_,_,_,_,_,_,_,_,_,_,_,_,_,_,_,_,c⟩:=h.rots.2.2 i hl
  have b:((List.range (A4 L i).n).flatMap (FF (A4 L i) (x.rots[i]).turns)).length<=(A4 L i).n*1:=Gm _ fun k=>by unfold FF;split<;>simp
  have:=d _ (yz hl)
  have:=c.1
  unfold Hi
  rw[yk hl]
  simp only[yI]
  omega
 have b:((List.range L.rights.n).flatMap (Dn L.rights x.rights)).length<=L.rights.n*2:=Gm _ fun i=>by unfold Dn;split<;>simp
 have o:((List.range L.duties.n).flatMap (Er L.duties x.duties)).length<=L.duties.n*2:=Gm _ fun i=>by unfold Er;split<;>simp
 have:=h.farms.1;have:=h.rots.1;have:=h.rights.1;have:=h.duties.1
 omega
theorem Pf(h:Bb N w L cs x)(m:w.rangeAt L.s 0 cs){Bu:Nat}(g:w.cell? ⟨Bu,0,none⟩=some (.pointer (some ⟨L.s,0,none⟩)))(n:B9 x=true):Lr N w (CB fun b=>VV N L.s b∨b=Bu) (DB (fun b=>VV N L.s b∨b=Bu) w) Bu L x:=by
 refine ⟨h.ok,Lm h m g,⟨Bu,0,rfl,.inr rfl⟩,fun j _ _=>⟨L.s,j,rfl,.inl (.inl rfl)⟩,fun i hi=>?_,fun i hi=>?_,fun i hi=>?_,?_,h.farms.1,h.rots.1,fun i hi=>?_,h.rights.1,h.duties.1,OY (Fg n).1,NX h n⟩
 ·obtain ⟨b,o,c,g1,f,_⟩:=h.rots.2.2 i (by rw[<-h.rots.1];exact hi)
  rw[Be g1]
  exact ⟨_,_,rfl,.inl (.inr f)⟩
 ·obtain ⟨b,o,c,g1,f,t,k,_,_,_,c1,rfl,A⟩:=h.farms.2.2 i hi
  rw[Be g1]
  exact ⟨⟨_,_,rfl,.inl (.inr f)⟩,k 3 _ rfl⟩
 ·obtain ⟨b,o,c,g1,f,t,k,_,_,_,c0,c1,c2,z,c4,rfl,_⟩:=h.rights.2.2 i hi
  rw[Be g1]
  exact ⟨⟨_,_,rfl,.inl (.inr f)⟩,k 0 _ rfl⟩
 ·refine Az.mono (fun a e u=>?_) (Ja h m)
  obtain ⟨b,o,c,rfl,hb,d,l⟩:=u
  have r:=U7 (K:=fun b=>VV N L.s b∨b=Bu) (fun b hb=>.inl (.inr hb)) e.1 b o c (.inl hb) l d
  obtain ⟨a,cap,rfl,e1,e2,v⟩:=l.cells
  obtain ⟨r0,r1,r2,y,p,r5⟩:=BJ d
  exact ⟨b,o,_,rfl,d,l,r,⟨_,_,rfl,.inl hb⟩,⟨_,_,rfl,.inl hb⟩,⟨_,_,rfl,.inl hb⟩,⟨_,_,rfl,.inl hb,_,p⟩,fun _=>⟨_,_,rfl,.inl hb⟩⟩
 ·obtain ⟨_,_,_,_,_,_,_,_,_,_,_,_,_,_,_,_,q⟩:=h.rots.2.2 i hi
  exact q.1
end
def D6(B:Nat)(w:World)(v:Value)(l:List Rf):Prop:=w.ownsRow B 23 2 v l.length (l.flatMap An)
theorem Su(B:Nat)(w:World):D6 B w (.slice none 0 0) []:=⟨rfl,.inl ⟨rfl,rfl⟩⟩
theorem D6.up{B:Nat}{w w':World}{v:Value}{l:List Rf}(h:D6 B w v l)(hb:∀g,v.ownBlock=some g->g < w.heap.size->w'.heap[g]?=w.heap[g]?):D6 B w' v l:=by
 obtain ⟨h1,h2⟩:=h
 refine ⟨h1,h2.imp id ?_⟩
 rintro ⟨g,cap,a,rfl,h4,h5,h6⟩
 exact ⟨g,cap,a,rfl,h4,(hb g rfl (ye.1 h5).1).trans h5,h6⟩
theorem NY{B:Nat}{W:World}{v:Value}{l:List Rf}(d:D6 B W v l)(r:Rf)(ty:TypeId)(g c:Nat)(D:W.heap[g]?=some (.cells #[.string r.name,.int .i64 r.n] 23 (0,0)))(x:l.length+1<=1000000000){v':Value}{w':World}
 (a:(Builtin.append_ #[127,127] ty #[v,.slice (some ⟨g,0,none⟩) 1 c]).run Try.prog W=.ok v' w'):v'.ownBlock=v.ownBlock∨v'.ownBlock=some W.heap.size:=by
 have f:(Try.prog.info? 23).map (fun i=>(i.zero,i.size,i.bytes))=some (some (.agg #[.string ⟨#[]⟩,iV 0]),2,24):=by kernel_rfl
 obtain ⟨q,hi,p,m,o⟩:=info_parts f
 have b:∀j u,(An r)[j]?=some u->W.cell? (((aV g 0):Addr).add j)=some u:=fun j u y=>by
  rw[zD]
  simp only[World.cell?,D]
  unfold An at y
  simpa using y
 have hl:(An r).length=1*q.size:=by rw[m];rfl
 rcases d.2 with ⟨rfl,E⟩|⟨k,cap,w,rfl,A,hk,C,z,t,s⟩
 ·rw[run_append_nil W 127 ty 23 q _ qx hi p (aV g 0) 1 c (An r) hl b (by omega) (by omega) (by rw[o];omega)] at a
  cases a
  exact .inr rfl
 ·by_cases h:l.length+1<=cap
  ·rw[run_append_room W 127 ty 23 q qx hi k l.length cap w hk (aV g 0) 1 c (An r) hl b (Dk r) h (by rw[m,t];show l.length*2+2<=cap*2;omega)] at a
   cases a
   exact .inl rfl
  ·have e:∀j u,(l.flatMap An)[j]?=some u->W.cell? (((aV k 0):Addr).add j)=some u:=World.ownsRow.cells d (g:=k) rfl
   rw[run_append_grow W 127 ty 23 q _ qx hi p (aV k 0) l.length cap (l.flatMap An) (by rw[m];exact d.1) e (aV g 0) 1 c (An r) hl b (by omega) (by omega) (growslice_fits (by omega) (by rw[o];omega))] at a
   cases a
   exact .inr rfl
theorem F7{o:Oper}{a:Act}{K:Act->World->Prop}{Q:QT}{W:World}(B:Nat)(s x:Operand)(z:o.op=.call {callee:=.builtin .append,args:=#[s,x],argTypes:=#[127,127]})
 (v:Value)(l:List Rf)(hs:a.eval s=v)(b:D6 B W v l)(r:Rf)(g c:Nat)(C:a.eval x=.slice (some ⟨g,0,none⟩) 1 c)(w:W.heap[g]?=some (.cells #[.string r.name,.int .i64 r.n] 23 (0,0)))(k:l.length+1<=1000000000)(f:B<=W.heap.size)
 (h:∀v' w',D6 B w' v' (l++[r])->W.grownBy w' v.ownBlock->(v'.ownBlock=v.ownBlock∨v'.ownBlock=some W.heap.size)->K (a.put o.dst v') w'):Oper.wp Try.prog o a W K Q:=by
 have e:(Try.prog.info? 23).map (fun i=>(i.zero,i.size,i.bytes))=some (some (.agg #[.string ⟨#[]⟩,iV 0]),2,24):=by kernel_rfl
 obtain ⟨A,hi,p,q,m⟩:=info_parts e
 have d:∀j u,(An r)[j]?=some u->W.cell? (((aV g 0):Addr).add j)=some u:=fun j u y=>by
  rw[zD]
  simp only[World.cell?,w]
  unfold An at y
  simpa using y
 obtain ⟨v',w',t,h2,h3,_⟩:=run_append_own (P:=Try.prog) W B 127 o.type 23 A _ 2 24 qx hi p q m rfl (by decide) v l.length _ b (aV g 0) 1 c (An r) rfl d (Dk r) (by unfold maxLen;omega) (by omega) f
 have hb:=NY b r o.type g c w k t
 unfold Oper.wp
 simp[execOp,z,resolve,invoke,builtin,hs,C,t,Result.andThen]
 refine h v' w' ?_ h3 hb
 unfold D6
 rw[yq,zG]
 simpa using h2
structure U8 (W:World) (base:Nat) (va:Value) (ls:List Rf) (r:Rf) (w1:World) (v:Value):Prop where
 own:D6 base w1 v (ls++[r])
 grown:W.grownBy w1 va.ownBlock
 blk:v.ownBlock=va.ownBlock∨∃g,v.ownBlock=some g∧W.heap.size<=g
def Vn(w:World)(v:Value)(r:Rf):Prop:=∃g,v=.slice (some ⟨g,0,none⟩) 1 1∧w.heap[g]?=some (.cells #[.string r.name,.int .i64 r.n] 23 (0,0))
theorem Vn.up{w w':World}{v:Value}{r:Rf}(h:Vn w v r)(hb:Below w.heap.size w w'):Vn w' v r:=by
 obtain ⟨g,h1,h2⟩:=h
 exact ⟨g,h1,(hb.block g (ye.1 h2).1).trans h2⟩
structure Ph (W:World) (base:Nat) (va:Value) (ls:List Rf) (r:Rf) (Bx s24 s25:Nat) (l:Array Bool) (tm:Array Value) (w:World):Prop where
 one:l.getD 6 false=false->Below W.heap.size W w∧(l.getD 5 false=true->Vn w (tm.getD s24 undef) r)
 two:l.getD 6 false=true->l.getD 7 false=false->U8 W base va ls r w (tm.getD s25 undef)
 three:l.getD 7 false=true->∃w1 v,U8 W base va ls r w1 v∧w=w1.setCell ⟨Bx,0,none⟩ v
theorem Ph.quiet{W:World}{base:Nat}{va:Value}{ls:List Rf}{r:Rf}{Bx a b:Nat}{l:Array Bool}{tm:Array Value}{w w2:World}{i t:Nat}{v:Value}(h:Ph W base va ls r Bx a b l tm w)(f:l.getD 6 false=false)(j:l.getD 7 false=false)(c:i≠5)(d:i≠6)(e:i≠7)(k:t < a)(hb:Below w.heap.size w w2):Ph W base va ls r Bx a b (l.setIfInBounds i true) (tm.setIfInBounds t v) w2:=by
 obtain ⟨h1,h2⟩:=h.one f
 refine ⟨fun _=>⟨h1.trans (hb.mono h1.size),fun h5=>?_⟩,fun h6=>?_,fun g=>?_⟩
 ·rw[Ac c] at h5
  rw[BS (Nat.ne_of_lt k)]
  exact (h2 h5).up hb
 ·rw[Ac d,f] at h6;cases h6
 ·rw[Ac e,j] at g;cases g
def Xb(va:Value)(b6 ub uo:Nat)(r:Rf)(j:Nat)(v:Value)(_:World):Prop:=match j with
 |0=>v=va
 |1=>v=.pointer (some ⟨b6,0,none⟩)
 |2=>v=.pointer (some ⟨ub,uo,none⟩)
 |3=>v=.pointer (some ⟨ub,uo,none⟩)
 |4=>v=.agg #[.string r.name,.int .i64 r.n]
 |_=>True
theorem XB{N:Act}{W0:World}{Q:QT}{l n Bx b6 ub uo base:Nat}{va:Value}{ls:List Rf}{r:Rf}(ops:Array Oper)(C:Gs Try.f14 7=some ops)
 (W:N.tmps.getD 4 undef=.pointer (some ⟨Bx,0,none⟩))(a7:N.tmps.getD 6 undef=.pointer (some ⟨b6,0,none⟩))(Z:N.tmps.size=64)
 (T:Bx < W0.heap.size)(a0:b6 < W0.heap.size)(V:ub < W0.heap.size)(R:∃u,W0.heap[Bx]?=some (.cells #[u] 127 (0,0)))(s:W0.cell? ⟨Bx,0,none⟩=some va)(F:W0.cell? ⟨b6,0,none⟩=some (.pointer (some ⟨ub,uo,none⟩)))
 (x:W0.cell? ⟨ub,uo,none⟩=some (.string r.name))(E:W0.cell? ⟨ub,uo+1,none⟩=some (.int .i64 r.n))(D:D6 base W0 va ls)(P:ls.length+1<=1000000000)(J:base<=W0.heap.size)(aa:Bx < base)
 (hQ:∀(a:Act) w1 v,a.tmps.size=64->a.defers=N.defers->(∀t,(t < 19∨25 < t)->a.tmps.getD t undef=N.tmps.getD t undef)->U8 W0 base va ls r w1 v->Q .normal a (w1.setCell ⟨Bx,0,none⟩ v)):
  (Code.region 7 ops true).wpIn (Fence.wide.inRound l) n Try.prog Q N W0:=by
 obtain rfl:=yh ((rfl:Gs Try.f14 7=some _).symm.trans C)
 clear C
 refine H7 (by kernel_rfl) (Ph W0 base va ls r Bx 24 25) (Xb va b6 ub uo r) (fun _ _ _=>True) (by kernel_rfl) (by rw[Z];kernel_rfl) (by kernel_rfl) (by kernel_rfl) (fun _ j v w w' _ _ _ h=>by unfold Xb at h ⊢;exact h) ⟨fun _=>⟨(yg _ _).drew,fun h=>(by cases h)⟩,fun h=>(by cases h),fun h=>(by cases h)⟩ ?_ ?_
 ·intro ix b a w' hM f o A
  have y:=yb hM.ext
  have H:=(ye.1 A).1
  have L:=hM.size
  have I:b.getD 6 false=false->b.getD 7 false=false:=fun i=>by
   rw[yj];intro B
   have:=A3 hM.down 8 7 6 (by kernel_rfl) B
   rw[i] at this;cases this
  match ix,H with
  |0,_=>
   have d:=hM.old f 4 (by kernel_rfl) _ W
   have i:b.getD 6 false=false:=by
    rw[yj];intro h6
    have:=A3 hM.down 8 6 0 (by kernel_rfl) h6
    rw[hM.not_yet f] at this;cases this
   have hb:=(y.o.one i).1
   have q:=yb i
   have m:=yb (I i)
   clear i
   have c:=(hb.cell (p:=(aV Bx 0)) T).trans s
   clear s x E F
   obtain rfl:=yh A
   go_simp
   exact ⟨_,rfl,y.o.quiet q.o m.o (by decide) (by decide) (by decide) (by decide) (yg _ _),trivial,rfl⟩
  |1,_=>
   have d:=hM.old f 6 (by kernel_rfl) _ a7
   have i:b.getD 6 false=false:=by
    rw[yj];intro h6
    have:=A3 hM.down 8 6 1 (by kernel_rfl) h6
    rw[hM.not_yet f] at this;cases this
   have hb:=(y.o.one i).1
   have q:=yb i
   have m:=yb (I i)
   clear i s x E F
   obtain rfl:=yh A
   go_simp
   exact ⟨_,rfl,y.o.quiet q.o m.o (by decide) (by decide) (by decide) (by decide) (yg _ _),trivial,rfl⟩
  |2,_=>
   have d:a.tmps[20]?.getD undef=pV b6 0:=hM.dep f 1 20 (by kernel_rfl) (by kernel_rfl)
   have i:b.getD 6 false=false:=by
    rw[yj];intro h6
    have:=A3 hM.down 8 6 2 (by kernel_rfl) h6
    rw[hM.not_yet f] at this;cases this
   have hb:=(y.o.one i).1
   have q:=yb i
   have m:=yb (I i)
   clear i
   have c:=(hb.cell (p:=(aV b6 0)) a0).trans F
   clear s x E F
   obtain rfl:=yh A
   go_simp
   exact ⟨_,rfl,y.o.quiet q.o m.o (by decide) (by decide) (by decide) (by decide) (yg _ _),trivial,rfl⟩
  |3,_=>
   have d:a.tmps[21]?.getD undef=pV ub uo:=hM.dep f 2 21 (by kernel_rfl) (by kernel_rfl)
   have i:b.getD 6 false=false:=by
    rw[yj];intro h6
    have:=A3 hM.down 8 6 3 (by kernel_rfl) h6
    rw[hM.not_yet f] at this;cases this
   have hb:=(y.o.one i).1
   have q:=yb i
   have m:=yb (I i)
   clear i s x E F
   obtain rfl:=yh A
   go_simp
   exact ⟨_,rfl,y.o.quiet q.o m.o (by decide) (by decide) (by decide) (by decide) (yg _ _),trivial,rfl⟩
  |4,_=>
   have d:a.tmps[22]?.getD undef=pV ub uo:=hM.dep f 3 22 (by kernel_rfl) (by kernel_rfl)
   have i:b.getD 6 false=false:=by
    rw[yj];intro h6
    have:=A3 hM.down 8 6 4 (by kernel_rfl) h6
    rw[hM.not_yet f] at this;cases this
   have hb:=(y.o.one i).1
   have q:=yb i
   have m:=yb (I i)
   clear i
   have c:=(hb.cell (p:=(aV ub uo)) V).trans x
   have c1:=(hb.cell (p:=(aV ub (uo+1))) V).trans E
   clear s x E F
   obtain rfl:=yh A
   go_simp
   exact ⟨_,rfl,y.o.quiet q.o m.o (by decide) (by decide) (by decide) (by decide) (yg _ _),trivial,rfl⟩
  |5,_=>
   have d:a.tmps[23]?.getD undef=.agg #[.string r.name,iV r.n]:=hM.dep f 4 23 (by kernel_rfl) (by kernel_rfl)
   have i:b.getD 6 false=false:=by
    rw[yj];intro h6
    have:=A3 hM.down 8 6 5 (by kernel_rfl) h6
    rw[hM.not_yet f] at this;cases this
   have hb:=(y.o.one i).1
   have q:=yb i
   have m:=yb (I i)
   clear i
   have HB:=yb hb
   have HL:Hid (5 < b.size):=yb (by rw[L];show 5 < 8;omega)
   have X:Hid (24 < a.tmps.size):=yb (by rw[hM.tmps,Z];decide)
   clear s x E F hb
   obtain rfl:=yh A
   go_simp
   refine ⟨_,rfl,⟨fun _=>⟨HB.o.alloc HB.o.size _,fun _=>⟨w'.heap.size,?_,World.alloc_heap_new _ _⟩⟩,fun h6=>?_,fun B=>?_⟩,trivial,trivial⟩
   ·show (a.put (some 24) (.slice (some (aV w'.heap.size 0)) 1 1)).tmps.getD 24 undef=_
    exact AZ _ X.o
   ·rw[Ac (by decide),q.o] at h6;cases h6
   ·rw[Ac (by decide),m.o] at B;cases B
  |6,_=>
   have d:a.tmps[19]?.getD undef=va:=hM.dep f 0 19 (by kernel_rfl) (by kernel_rfl)
   have i:=hM.not_yet f
   have l5:b.getD 5 false=true:=hM.came f 5 (by kernel_rfl)
   obtain ⟨g,S,hg⟩:=(y.o.one i).2 l5
   have hb:=(y.o.one i).1
   have HL:Hid (6 < b.size):=yb (by rw[L];show 6 < 8;omega)
   have X:Hid (25 < a.tmps.size):=yb (by rw[hM.tmps,Z];decide)
   have m:=yb (I i)
   rw[yH] at S
   refine F7 base (.tmp 19) (.tmp 24) (by obtain rfl:=yh A;rfl) va ls (by simpa[Act.eval] using d) (D.up fun k hk H=>hb.block k H) r g 1 (by simpa[Act.eval] using S) hg P (yl J hb.size) ?_
   intro v' w5 M z a1
   obtain rfl:=yh A
   refine ⟨v',rfl,⟨fun h6=>?_,fun _ _=>⟨?_,?_,?_⟩,fun B=>?_⟩,trivial,trivial⟩
   ·simp[HL.o] at h6
   ·show D6 base w5 ((a.put (some 25) v').tmps.getD 25 undef) _
    rw[AZ _ X.o];exact M
   ·exact ⟨z.os.trans hb.os,z.tape.trans hb.tape,z.output.trans hb.output,yl hb.size z.size,fun k hk a2=>(z.block k (yr hk hb.size) a2).trans (hb.block k hk)⟩
   ·show ((a.put (some 25) v').tmps.getD 25 undef).ownBlock=_∨∃g,((a.put (some 25) v').tmps.getD 25 undef).ownBlock=some g∧_
    rw[AZ _ X.o]
    exact a1.imp id (fun h=>⟨_,h,hb.size⟩)
   ·rw[Ac (by decide),m.o] at B;cases B
  |7,_=>
   have d:=hM.old f 4 (by kernel_rfl) _ W
   have l6:b.getD 6 false=true:=hM.came f 6 (by kernel_rfl)
   have a6:=hM.not_yet f
   have K:=y.o.two l6 a6
   have G:w'.heap[Bx]?=W0.heap[Bx]?:=K.grown.block Bx T (fun e=>by
    have:=(D.lt Bx e.symm).1;omega)
   obtain ⟨u0,U⟩:=R
   have c:=Ag (o:=0) G
   have fz:w'.frozen? (aV Bx 0)=false:=by unfold World.frozen?;rw[G,U];rfl
   have c2:w'.cell? (aV Bx 0)=some va:=c.trans s
   obtain ⟨v,Y⟩:∃v,v=a.tmps.getD 25 undef:=⟨_,rfl⟩
   rw[<-Y] at K
   have HP:=yb K
   rw[yH] at Y
   replace Y:=Y.symm
   have HL:Hid (7 < b.size):=yb (by rw[L];show 7 < 8;omega)
   have a8:=yb l6
   obtain ⟨ad,nn,cc,rfl⟩:∃ad n c,v=.slice ad n c:=by
    rcases K.own.2 with ⟨rfl,_⟩|⟨_,_,_,rfl,_⟩
    ·exact ⟨_,_,_,rfl⟩
    ·exact ⟨_,_,_,rfl⟩
   clear s x E F K c G U l6
   obtain rfl:=yh A
   go_simp
   refine ⟨undef,rfl,⟨fun h6=>?_,fun _ B=>?_,fun _=>⟨w',_,HP.o,rfl⟩⟩,trivial,trivial⟩
   ·rw[Ac (by decide),a8.o] at h6;cases h6
   ·simp[HL.o] at B
 ·intro b a w' O hM
  obtain ⟨w1,v,K,rfl⟩:=hM.ext.three (O 7 (show 7 < 8 by omega))
  exact hQ a w1 v (hM.tmps.trans Z) hM.defers (FQ (lo:=19) (hi:=25) (by kernel_rfl) hM) K
def VX(va:Value)(b6 ub uo:Nat)(r:Rf)(j:Nat)(v:Value)(_:World):Prop:=match j with
 |0=>v=va
 |1=>v=.pointer (some ⟨b6,0,none⟩)
 |2=>v=.pointer (some ⟨ub,uo,none⟩)
 |3=>v=.pointer (some ⟨ub,uo,none⟩)
 |4=>v=.agg #[.string r.name,.int .i64 r.n]
 |_=>True
theorem Xc{N:Act}{W0:World}{Q:QT}{l n Bx b6 ub uo base:Nat}{va:Value}{ls:List Rf}{r:Rf}(ops:Array Oper)(C:Gs Try.f14 10=some ops)
 (W:N.tmps.getD 5 undef=.pointer (some ⟨Bx,0,none⟩))(a7:N.tmps.getD 7 undef=.pointer (some ⟨b6,0,none⟩))(Z:N.tmps.size=64)
 (T:Bx < W0.heap.size)(a0:b6 < W0.heap.size)(V:ub < W0.heap.size)(R:∃u,W0.heap[Bx]?=some (.cells #[u] 127 (0,0)))(s:W0.cell? ⟨Bx,0,none⟩=some va)(F:W0.cell? ⟨b6,0,none⟩=some (.pointer (some ⟨ub,uo,none⟩)))
 (x:W0.cell? ⟨ub,uo,none⟩=some (.string r.name))(E:W0.cell? ⟨ub,uo+1,none⟩=some (.int .i64 r.n))(D:D6 base W0 va ls)(P:ls.length+1<=1000000000)(J:base<=W0.heap.size)(aa:Bx < base)
 (hQ:∀(a:Act) w1 v,a.tmps.size=64->a.defers=N.defers->(∀t,(t < 28∨34 < t)->a.tmps.getD t undef=N.tmps.getD t undef)->U8 W0 base va ls r w1 v->Q .normal a (w1.setCell ⟨Bx,0,none⟩ v)):
  (Code.region 10 ops true).wpIn (Fence.wide.inRound l) n Try.prog Q N W0:=by
 obtain rfl:=yh ((rfl:Gs Try.f14 10=some _).symm.trans C)
 clear C
 refine H7 (by kernel_rfl) (Ph W0 base va ls r Bx 33 34) (VX va b6 ub uo r) (fun _ _ _=>True) (by kernel_rfl) (by rw[Z];kernel_rfl) (by kernel_rfl) (by kernel_rfl) (fun _ j v w w' _ _ _ h=>by unfold VX at h ⊢;exact h) ⟨fun _=>⟨(yg _ _).drew,fun h=>(by cases h)⟩,fun h=>(by cases h),fun h=>(by cases h)⟩ ?_ ?_
 ·intro ix b a w' hM f o A
  have y:=yb hM.ext
  have H:=(ye.1 A).1
  have L:=hM.size
  have I:b.getD 6 false=false->b.getD 7 false=false:=fun i=>by
   rw[yj];intro B
   have:=A3 hM.down 8 7 6 (by kernel_rfl) B
   rw[i] at this;cases this
  match ix,H with
  |0,_=>
   have d:=hM.old f 5 (by kernel_rfl) _ W
   have i:b.getD 6 false=false:=by
    rw[yj];intro h6
    have:=A3 hM.down 8 6 0 (by kernel_rfl) h6
    rw[hM.not_yet f] at this;cases this
   have hb:=(y.o.one i).1
   have q:=yb i
   have m:=yb (I i)
   clear i
   have c:=(hb.cell (p:=(aV Bx 0)) T).trans s
   clear s x E F
   obtain rfl:=yh A
   go_simp
   exact ⟨_,rfl,y.o.quiet q.o m.o (by decide) (by decide) (by decide) (by decide) (yg _ _),trivial,rfl⟩
  |1,_=>
   have d:=hM.old f 7 (by kernel_rfl) _ a7
   have i:b.getD 6 false=false:=by
    rw[yj];intro h6
    have:=A3 hM.down 8 6 1 (by kernel_rfl) h6
    rw[hM.not_yet f] at this;cases this
   have hb:=(y.o.one i).1
   have q:=yb i
   have m:=yb (I i)
   clear i s x E F
   obtain rfl:=yh A
   go_simp
   exact ⟨_,rfl,y.o.quiet q.o m.o (by decide) (by decide) (by decide) (by decide) (yg _ _),trivial,rfl⟩
  |2,_=>
   have d:a.tmps[29]?.getD undef=pV b6 0:=hM.dep f 1 29 (by kernel_rfl) (by kernel_rfl)
   have i:b.getD 6 false=false:=by
    rw[yj];intro h6
    have:=A3 hM.down 8 6 2 (by kernel_rfl) h6
    rw[hM.not_yet f] at this;cases this
   have hb:=(y.o.one i).1
   have q:=yb i
   have m:=yb (I i)
   clear i
   have c:=(hb.cell (p:=(aV b6 0)) a0).trans F
   clear s x E F
   obtain rfl:=yh A
   go_simp
   exact ⟨_,rfl,y.o.quiet q.o m.o (by decide) (by decide) (by decide) (by decide) (yg _ _),trivial,rfl⟩
  |3,_=>
   have d:a.tmps[30]?.getD undef=pV ub uo:=hM.dep f 2 30 (by kernel_rfl) (by kernel_rfl)
   have i:b.getD 6 false=false:=by
    rw[yj];intro h6
    have:=A3 hM.down 8 6 3 (by kernel_rfl) h6
    rw[hM.not_yet f] at this;cases this
   have hb:=(y.o.one i).1
   have q:=yb i
   have m:=yb (I i)
   clear i s x E F
   obtain rfl:=yh A
   go_simp
   exact ⟨_,rfl,y.o.quiet q.o m.o (by decide) (by decide) (by decide) (by decide) (yg _ _),trivial,rfl⟩
  |4,_=>
   have d:a.tmps[31]?.getD undef=pV ub uo:=hM.dep f 3 31 (by kernel_rfl) (by kernel_rfl)
   have i:b.getD 6 false=false:=by
    rw[yj];intro h6
    have:=A3 hM.down 8 6 4 (by kernel_rfl) h6
    rw[hM.not_yet f] at this;cases this
   have hb:=(y.o.one i).1
   have q:=yb i
   have m:=yb (I i)
   clear i
   have c:=(hb.cell (p:=(aV ub uo)) V).trans x
   have c1:=(hb.cell (p:=(aV ub (uo+1))) V).trans E
   clear s x E F
   obtain rfl:=yh A
   go_simp
   exact ⟨_,rfl,y.o.quiet q.o m.o (by decide) (by decide) (by decide) (by decide) (yg _ _),trivial,rfl⟩
  |5,_=>
   have d:a.tmps[32]?.getD undef=.agg #[.string r.name,iV r.n]:=hM.dep f 4 32 (by kernel_rfl) (by kernel_rfl)
   have i:b.getD 6 false=false:=by
    rw[yj];intro h6
    have:=A3 hM.down 8 6 5 (by kernel_rfl) h6
    rw[hM.not_yet f] at this;cases this
   have hb:=(y.o.one i).1
   have q:=yb i
   have m:=yb (I i)
   clear i
   have HB:=yb hb
   have HL:Hid (5 < b.size):=yb (by rw[L];show 5 < 8;omega)
   have X:Hid (33 < a.tmps.size):=yb (by rw[hM.tmps,Z];decide)
   clear s x E F hb
   obtain rfl:=yh A
   go_simp
   refine ⟨_,rfl,⟨fun _=>⟨HB.o.alloc HB.o.size _,fun _=>⟨w'.heap.size,?_,World.alloc_heap_new _ _⟩⟩,fun h6=>?_,fun B=>?_⟩,trivial,trivial⟩
   ·show (a.put (some 33) (.slice (some (aV w'.heap.size 0)) 1 1)).tmps.getD 33 undef=_
    exact AZ _ X.o
   ·rw[Ac (by decide),q.o] at h6;cases h6
   ·rw[Ac (by decide),m.o] at B;cases B
  |6,_=>
   have d:a.tmps[28]?.getD undef=va:=hM.dep f 0 28 (by kernel_rfl) (by kernel_rfl)
   have i:=hM.not_yet f
   have l5:b.getD 5 false=true:=hM.came f 5 (by kernel_rfl)
   obtain ⟨g,S,hg⟩:=(y.o.one i).2 l5
   have hb:=(y.o.one i).1
   have HL:Hid (6 < b.size):=yb (by rw[L];show 6 < 8;omega)
   have X:Hid (34 < a.tmps.size):=yb (by rw[hM.tmps,Z];decide)
   have m:=yb (I i)
   rw[yH] at S
   refine F7 base (.tmp 28) (.tmp 33) (by obtain rfl:=yh A;rfl) va ls (by simpa[Act.eval] using d) (D.up fun k hk H=>hb.block k H) r g 1 (by simpa[Act.eval] using S) hg P (yl J hb.size) ?_
   intro v' w5 M z a1
   obtain rfl:=yh A
   refine ⟨v',rfl,⟨fun h6=>?_,fun _ _=>⟨?_,?_,?_⟩,fun B=>?_⟩,trivial,trivial⟩
   ·simp[HL.o] at h6
   ·show D6 base w5 ((a.put (some 34) v').tmps.getD 34 undef) _
    rw[AZ _ X.o];exact M
   ·exact ⟨z.os.trans hb.os,z.tape.trans hb.tape,z.output.trans hb.output,yl hb.size z.size,fun k hk a2=>(z.block k (yr hk hb.size) a2).trans (hb.block k hk)⟩
   ·show ((a.put (some 34) v').tmps.getD 34 undef).ownBlock=_∨∃g,((a.put (some 34) v').tmps.getD 34 undef).ownBlock=some g∧_
    rw[AZ _ X.o]
    exact a1.imp id (fun h=>⟨_,h,hb.size⟩)
   ·rw[Ac (by decide),m.o] at B;cases B
  |7,_=>
   have d:=hM.old f 5 (by kernel_rfl) _ W
   have l6:b.getD 6 false=true:=hM.came f 6 (by kernel_rfl)
   have a6:=hM.not_yet f
   have K:=y.o.two l6 a6
   have G:w'.heap[Bx]?=W0.heap[Bx]?:=K.grown.block Bx T (fun e=>by
    have:=(D.lt Bx e.symm).1;omega)
   obtain ⟨u0,U⟩:=R
   have c:=Ag (o:=0) G
   have fz:w'.frozen? (aV Bx 0)=false:=by unfold World.frozen?;rw[G,U];rfl
   have c2:w'.cell? (aV Bx 0)=some va:=c.trans s
   obtain ⟨v,Y⟩:∃v,v=a.tmps.getD 34 undef:=⟨_,rfl⟩
   rw[<-Y] at K
   have HP:=yb K
   rw[yH] at Y
   replace Y:=Y.symm
   have HL:Hid (7 < b.size):=yb (by rw[L];show 7 < 8;omega)
   have a8:=yb l6
   obtain ⟨ad,nn,cc,rfl⟩:∃ad n c,v=.slice ad n c:=by
    rcases K.own.2 with ⟨rfl,_⟩|⟨_,_,_,rfl,_⟩
    ·exact ⟨_,_,_,rfl⟩
    ·exact ⟨_,_,_,rfl⟩
   clear s x E F K c G U l6
   obtain rfl:=yh A
   go_simp
   refine ⟨undef,rfl,⟨fun h6=>?_,fun _ B=>?_,fun _=>⟨w',_,HP.o,rfl⟩⟩,trivial,trivial⟩
   ·rw[Ac (by decide),a8.o] at h6;cases h6
   ·simp[HL.o] at B
 ·intro b a w' O hM
  obtain ⟨w1,v,K,rfl⟩:=hM.ext.three (O 7 (show 7 < 8 by omega))
  exact hQ a w1 v (hM.tmps.trans Z) hM.defers (FQ (lo:=28) (hi:=34) (by kernel_rfl) hM) K
structure Mv (W0:World) (base:Nat) (w:World) (va:Value) (la:List Rf) (vb:Value) (lb:List Rf):Prop where
 below:Below base W0 w
 size:base<=w.heap.size
 a:D6 base w va la
 b:D6 base w vb lb
 apart:∀g,va.ownBlock=some g->vb.ownBlock≠some g
 keep:∀(k:Nat) (o:Obj),W0.heap[k]?=some o->(∀c f,o≠Obj.cells c 23 f)->w.heap[k]?=some o
theorem D6.not{w:World}{base:Nat}{v:Value}{l:List Rf}(h:D6 base w v l){g:Nat}{o:Obj}(a:v.ownBlock=some g)(d:w.heap[g]?=some o)(b:∀c f,o≠Obj.cells c 23 f):False:=by
 rcases h.2 with ⟨rfl,_⟩|⟨k,cap,e,rfl,_,hk,_⟩
 ·cases a
 ·cases a
  rw[d] at hk
  exact b _ _ (yh hk)
theorem Mv.up{W0 w w':World}{base:Nat}{va vb:Value}{la lb:List Rf}(h:Mv W0 base w va la vb lb)(hb:Below w.heap.size w w'):Mv W0 base w' va la vb lb:=
 ⟨h.below.trans (hb.mono h.size),yl h.size hb.size,h.a.up (fun g _ c=>hb.block g c),h.b.up (fun g _ c=>hb.block g c),h.apart,fun k o e d=>by
  have:=h.keep k o e d
  rw[hb.block k (ye.1 this).1];exact this⟩
theorem D6.lt{w:World}{base:Nat}{v:Value}{l:List Rf}(h:D6 base w v l){g:Nat}(a:v.ownBlock=some g):base<=g∧g < w.heap.size:=World.ownsRow.lt h g a
theorem Mv.putA{W0 w w':World}{base:Nat}{va vb c:Value}{la lb i:List Rf}(h:Mv W0 base w va la vb lb)(j:D6 base w' c i)(d:w.grownBy w' va.ownBlock)(hk:c.ownBlock=va.ownBlock∨c.ownBlock=some w.heap.size):Mv W0 base w' c i vb lb:=by
 refine ⟨h.below.trans ⟨d.os,d.tape,d.output,d.size,fun k f=>d.block k (yr f h.size) (fun e=>?_)⟩,yl h.size d.size,j,h.b.up (fun g l f=>d.block g f (fun e=>h.apart g e.symm l)),fun g h1 h2=>?_,fun k o n m=>?_⟩
 ·have:=(h.a.lt e.symm).1;omega
 ·rcases hk with hk|hk
  ·rw[hk] at h1;exact h.apart g h1 h2
  ·rw[hk] at h1;cases h1
   have:=(h.b.lt h2).2;omega
 ·have h1:=h.keep k o n m
  rw[d.block k (ye.1 h1).1 (fun e=>h.a.not e.symm h1 m)];exact h1
theorem Mv.swap{W0 w:World}{base:Nat}{va vb:Value}{la lb:List Rf}(h:Mv W0 base w va la vb lb):Mv W0 base w vb lb va la:=⟨h.below,h.size,h.b,h.a,fun g h1 h2=>h.apart g h2 h1,h.keep⟩
def G9(w:World)(va vb v:Value)(r:Rf):Prop:=∃g,v=.slice (some ⟨g,0,none⟩) 1 1∧w.heap[g]?=some (.cells #[.string r.name,.int .i64 r.n] 23 (0,0))∧va.ownBlock≠some g∧vb.ownBlock≠some g
theorem G9.up{w w':World}{va vb v:Value}{r:Rf}(h:G9 w va vb v r)(hb:Below w.heap.size w w'):G9 w' va vb v r:=by
 obtain ⟨g,h1,h2,h3⟩:=h
 exact ⟨g,h1,(hb.block g (ye.1 h2).1).trans h2,h3⟩
theorem G9.grown{w w':World}{va vb v a:Value}{r:Rf}(h:G9 w va vb v r)(c:w.grownBy w' va.ownBlock)(hk:a.ownBlock=va.ownBlock∨a.ownBlock=some w.heap.size):G9 w' a vb v r:=by
 obtain ⟨g,h1,h2,h3,h4⟩:=h
 have b:=(ye.1 h2).1
 refine ⟨g,h1,(c.block g b (fun e=>h3 e.symm)).trans h2,fun e=>?_,h4⟩
 rcases hk with hk|hk
 ·exact h3 (hk▸e)
 ·rw[hk] at e;cases e;exact xE _ b
theorem Jh{W0 w:World}{base:Nat}{va vb:Value}{la lb:List Rf}(h:Mv W0 base w va la vb lb)(r:Rf):G9 (w.alloc (.cells #[.string r.name,.int .i64 r.n] 23)) va vb (.slice (some ⟨w.heap.size,0,none⟩) 1 1) r:=
 ⟨w.heap.size,rfl,World.alloc_heap_new _ _,fun e=>by have:=(h.a.lt e).2;omega,fun e=>by have:=(h.b.lt e).2;omega⟩
structure Kf (W0:World) (base B4 B5:Nat) (va:Value) (la:List Rf) (vb:Value) (lb:List Rf) (r1 r2:Rf) (l:Array Bool) (tm:Array Value) (w:World):Prop where
 p00:l.getD 8 false=false->Mv W0 base w va la vb lb∧(l.getD 7 false=true->G9 w va vb (tm.getD 48 undef) r1)∧(l.getD 16 false=true->G9 w va vb (tm.getD 57 undef) r2)
 p10:l.getD 8 false=true->l.getD 17 false=false->Mv W0 base w (tm.getD 49 undef) (la++[r1]) vb lb∧(l.getD 16 false=true->G9 w (tm.getD 49 undef) vb (tm.getD 57 undef) r2)
 p11:l.getD 17 false=true->l.getD 18 false=false->Mv W0 base w (tm.getD 49 undef) (la++[r1]) (tm.getD 58 undef) (lb++[r2])
 p18:l.getD 18 false=true->l.getD 19 false=false->∃w1,Mv W0 base w1 (tm.getD 49 undef) (la++[r1]) (tm.getD 58 undef) (lb++[r2])∧w=w1.setCell ⟨B4,0,none⟩ (tm.getD 49 undef)
 p19:l.getD 19 false=true->∃w1 v1 v2,Mv W0 base w1 v1 (la++[r1]) v2 (lb++[r2])∧w=(w1.setCell ⟨B4,0,none⟩ v1).setCell ⟨B5,0,none⟩ v2
theorem Kf.quiet{W0:World}{base B4 B5:Nat}{va vb:Value}{la lb:List Rf}{r1 r2:Rf}{l:Array Bool}{tm:Array Value}{w:World}{i t:Nat}{v:Value}(h:Kf W0 base B4 B5 va la vb lb r1 r2 l tm w)(b:l.getD 17 false=false)(o:l.getD 18 false=false)(m:l.getD 19 false=false)
 (hi:i≠7∧i≠8∧i≠16∧i≠17∧i≠18∧i≠19)(r:t≠48∧t≠49∧t≠57):Kf W0 base B4 B5 va la vb lb r1 r2 (l.setIfInBounds i true) (tm.setIfInBounds t v) w:=by
 obtain ⟨u,q,a,e,p,k⟩:=hi
 obtain ⟨g,n,d⟩:=r
 refine ⟨fun c=>?_,fun c _=>?_,fun h=>?_,fun h=>?_,fun h=>?_⟩
 ·rw[Ac q] at c
  obtain ⟨f,s,j⟩:=h.p00 c
  rw[Ac u,Ac a,BS g,BS d]
  exact ⟨f,s,j⟩
 ·rw[Ac q] at c
  obtain ⟨f,j⟩:=h.p10 c b
  rw[Ac a,BS n,BS d]
  exact ⟨f,j⟩
 ·rw[Ac e,b] at h;cases h
 ·rw[Ac p,o] at h;cases h
 ·rw[Ac k,m] at h;cases h
theorem Kf.below{W0:World}{base B4 B5:Nat}{va vb:Value}{la lb:List Rf}{r1 r2:Rf}{l:Array Bool}{tm:Array Value}{w:World}(h:Kf W0 base B4 B5 va la vb lb r1 r2 l tm w)(a:l.getD 17 false=false):Below base W0 w∧base<=w.heap.size:=by
 cases b:l.getD 8 false with
 |false=>exact ⟨(h.p00 b).1.below,(h.p00 b).1.size⟩
 |true=>exact ⟨(h.p10 b a).1.below,(h.p10 b a).1.size⟩
def Xd(va vb:Value)(B B3 b1 o1 n1 c1 b2 o2 n2 c2 i:Nat)(r1 r2:Rf)(j:Nat)(v:Value)(_:World):Prop:=match j with
 |0=>v=va
 |1=>v=.pointer (some ⟨B,21,none⟩)
 |2=>v=.slice (some ⟨b1,o1,none⟩) n1 c1
 |3=>v=.int .i64 i
 |4=>v=.pointer (some ⟨b1,o1+i*51,none⟩)
 |5=>v=.pointer (some ⟨b1,o1+i*51+1,none⟩)
 |6=>v=.agg #[.string r1.name,.int .i64 r1.n]
 |9=>v=vb
 |10=>v=.pointer (some ⟨B3,21,none⟩)
 |11=>v=.slice (some ⟨b2,o2,none⟩) n2 c2
 |12=>v=.int .i64 i
 |13=>v=.pointer (some ⟨b2,o2+i*51,none⟩)
 |14=>v=.pointer (some ⟨b2,o2+i*51+1,none⟩)
 |15=>v=.agg #[.string r2.name,.int .i64 r2.n]
 |_=>True
theorem Xe{a₀:Act}{W0:World}{Q:QT}{base B B3 B4 B5 b1 o1 n1 c1 b2 o2 n2 c2 i:Nat}{va vb:Value}{la lb:List Rf}{r1 r2:Rf}(ops:Array Oper)(a1:Gs Try.f14 14=some ops)
 (ap:a₀.tmps.getD 1 undef=.pointer (some ⟨B,0,none⟩))(ax:a₀.tmps.getD 3 undef=.pointer (some ⟨B3,0,none⟩))(an:a₀.tmps.getD 4 undef=.pointer (some ⟨B4,0,none⟩))(a8:a₀.tmps.getD 5 undef=.pointer (some ⟨B5,0,none⟩))(aj:a₀.tmps.getD 8 undef=.int .i64 i)(hz:a₀.tmps.size=64)
 (hB:B < base)(b3:B3 < base)(ai:B4 < base)(am:B5 < base)(ac:b1 < base)(al:b2 < base)(b4:B4≠B5)(hi1:i < n1)(hi2:i < n2)
 (af:∃u,W0.heap[B4]?=some (.cells #[u] 127 (0,0)))(ak:∃u,W0.heap[B5]?=some (.cells #[u] 127 (0,0)))(D:W0.cell? ⟨B4,0,none⟩=some va)(z:W0.cell? ⟨B5,0,none⟩=some vb)
 (G:W0.cell? ⟨B,21,none⟩=some (.slice (some ⟨b1,o1,none⟩) n1 c1))(F:W0.cell? ⟨B3,21,none⟩=some (.slice (some ⟨b2,o2,none⟩) n2 c2))
 (E:W0.cell? ⟨b1,o1+i*51+1,none⟩=some (.string r1.name))(A:W0.cell? ⟨b1,o1+i*51+1+1,none⟩=some (.int .i64 r1.n))(y:W0.cell? ⟨b2,o2+i*51+1,none⟩=some (.string r2.name))(C:W0.cell? ⟨b2,o2+i*51+1+1,none⟩=some (.int .i64 r2.n))
 (h2:Mv W0 base W0 va la vb lb)(au:la.length+1<=1000000000)(aq:lb.length+1<=1000000000)
 (hQ:∀(a:Act) w1 v1 v2,a.tmps.size=64->a.defers=a₀.defers->(∀t,(t < 41∨58 < t)->a.tmps.getD t undef=a₀.tmps.getD t undef)->Mv W0 base w1 v1 (la++[r1]) v2 (lb++[r2])->Q .normal a ((w1.setCell ⟨B4,0,none⟩ v1).setCell ⟨B5,0,none⟩ v2)):
  (Code.region 14 ops true).wp Try.prog Q a₀ W0:=by
 obtain rfl:=yh ((rfl:Gs Try.f14 14=some _).symm.trans a1)
 clear a1
 refine DP (by kernel_rfl) (Kf W0 base B4 B5 va la vb lb r1 r2) (Xd va vb B B3 b1 o1 n1 c1 b2 o2 n2 c2 i r1 r2) (fun _ _ _=>True) (by kernel_rfl) (by rw[hz];kernel_rfl) (by kernel_rfl) (fun _ j v w w' _ _ _ h=>by unfold Xd at h ⊢;exact h) ⟨fun _=>⟨h2.up (yg _ _).drew,fun h=>(by cases h),fun h=>(by cases h)⟩,fun h=>(by cases h),fun h=>(by cases h),fun h=>(by cases h),fun h=>(by cases h)⟩ ?_ ?_
 ·clear h2
  intro ix f a w' hM x o J
  have H:=yb hM.ext
  have ar:=(ye.1 J).1
  have Z:=hM.size
  have I:f.getD 17 false=false->f.getD 18 false=false∧f.getD 19 false=false:=fun n=>by
   constructor
   ·rw[yj];intro h7
    have:=A3 hM.down 20 18 17 (by kernel_rfl) h7
    rw[n] at this;cases this
   ·rw[yj];intro h7
    have:=A3 hM.down 20 19 17 (by kernel_rfl) h7
    rw[n] at this;cases this
  match ix,ar with
  |0,_=>
   have d:=hM.old x 4 (by kernel_rfl) _ an
   have k:f.getD 17 false=false:=by
    rw[yj];intro h6
    have:=A3 hM.down 20 17 0 (by kernel_rfl) h6
    rw[hM.not_yet x] at this;cases this
   obtain ⟨q,l⟩:=I k
   have hb:=(H.o.below k).1
   have r:=yb k;have s:=yb q;have m:=yb l
   clear k q l
   have c:=(hb.cell (p:=(aV B4 0)) ai).trans D
   clear D z G F E y A C hi1 hi2 I hb
   obtain rfl:=yh J
   go_simp
   exact ⟨_,rfl,H.o.quiet r.o s.o m.o (by decide) (by decide),trivial,rfl⟩
  |1,_=>
   have d:=hM.old x 1 (by kernel_rfl) _ ap
   have k:f.getD 17 false=false:=by
    rw[yj];intro h6
    have:=A3 hM.down 20 17 1 (by kernel_rfl) h6
    rw[hM.not_yet x] at this;cases this
   obtain ⟨q,l⟩:=I k
   have hb:=(H.o.below k).1
   have r:=yb k;have s:=yb q;have m:=yb l
   clear k q l D z G F E y A C hi1 hi2 I hb
   obtain rfl:=yh J
   go_simp
   exact ⟨_,rfl,H.o.quiet r.o s.o m.o (by decide) (by decide),trivial,rfl⟩
  |2,_=>
   have d:a.tmps[42]?.getD undef=pV B 21:=hM.dep x 1 42 (by kernel_rfl) (by kernel_rfl)
   have k:f.getD 17 false=false:=by
    rw[yj];intro h6
    have:=A3 hM.down 20 17 2 (by kernel_rfl) h6
    rw[hM.not_yet x] at this;cases this
   obtain ⟨q,l⟩:=I k
   have hb:=(H.o.below k).1
   have r:=yb k;have s:=yb q;have m:=yb l
   clear k q l
   have c:=(hb.cell (p:=(aV B 21)) hB).trans G
   clear D z G F E y A C hi1 hi2 I hb
   obtain rfl:=yh J
   go_simp
   exact ⟨_,rfl,H.o.quiet r.o s.o m.o (by decide) (by decide),trivial,rfl⟩
  |3,_=>
   have d:=hM.old x 8 (by kernel_rfl) _ aj
   have k:f.getD 17 false=false:=by
    rw[yj];intro h6
    have:=A3 hM.down 20 17 3 (by kernel_rfl) h6
    rw[hM.not_yet x] at this;cases this
   obtain ⟨q,l⟩:=I k
   have hb:=(H.o.below k).1
   have r:=yb k;have s:=yb q;have m:=yb l
   clear k q l D z G F E y A C hi1 hi2 I hb
   obtain rfl:=yh J
   go_simp
   exact ⟨_,rfl,H.o.quiet r.o s.o m.o (by decide) (by decide),trivial,rfl⟩
  |4,_=>
   have d1:a.tmps[43]?.getD undef=.slice (some (aV b1 o1)) n1 c1:=hM.dep x 2 43 (by kernel_rfl) (by kernel_rfl)
   have d2:a.tmps[44]?.getD undef=iV i:=hM.dep x 3 44 (by kernel_rfl) (by kernel_rfl)
   have av:(i:Int) < (n1:Int):=by omega
   have k:f.getD 17 false=false:=by
    rw[yj];intro h6
    have:=A3 hM.down 20 17 4 (by kernel_rfl) h6
    rw[hM.not_yet x] at this;cases this
   obtain ⟨q,l⟩:=I k
   have hb:=(H.o.below k).1
   have r:=yb k;have s:=yb q;have m:=yb l
   clear k q l D z G F E y A C hi1 hi2 I hb
   obtain rfl:=yh J
   go_simp
   exact ⟨_,rfl,H.o.quiet r.o s.o m.o (by decide) (by decide),trivial,rfl⟩
  |5,_=>
   have d:a.tmps[45]?.getD undef=pV b1 (o1+i*51):=hM.dep x 4 45 (by kernel_rfl) (by kernel_rfl)
   have k:f.getD 17 false=false:=by
    rw[yj];intro h6
    have:=A3 hM.down 20 17 5 (by kernel_rfl) h6
    rw[hM.not_yet x] at this;cases this
   obtain ⟨q,l⟩:=I k
   have hb:=(H.o.below k).1
   have r:=yb k;have s:=yb q;have m:=yb l
   clear k q l D z G F E y A C hi1 hi2 I hb
   obtain rfl:=yh J
   go_simp
   exact ⟨_,rfl,H.o.quiet r.o s.o m.o (by decide) (by decide),trivial,rfl⟩
  |6,_=>
   have d:a.tmps[46]?.getD undef=pV b1 (o1+i*51+1):=hM.dep x 5 46 (by kernel_rfl) (by kernel_rfl)
   have k:f.getD 17 false=false:=by
    rw[yj];intro h6
    have:=A3 hM.down 20 17 6 (by kernel_rfl) h6
    rw[hM.not_yet x] at this;cases this
   obtain ⟨q,l⟩:=I k
   have hb:=(H.o.below k).1
   have r:=yb k;have s:=yb q;have m:=yb l
   clear k q l
   have c:=(hb.cell (p:=(aV b1 (o1+i*51+1))) ac).trans E
   have c1:=(hb.cell (p:=(aV b1 (o1+i*51+1+1))) ac).trans A
   clear D z G F E y A C hi1 hi2 I hb
   obtain rfl:=yh J
   go_simp
   exact ⟨_,rfl,H.o.quiet r.o s.o m.o (by decide) (by decide),trivial,rfl⟩
  |7,_=>
   have d:a.tmps[47]?.getD undef=.agg #[.string r1.name,iV r1.n]:=hM.dep x 6 47 (by kernel_rfl) (by kernel_rfl)
   have k:f.getD 17 false=false:=by
    rw[yj];intro h6
    have:=A3 hM.down 20 17 7 (by kernel_rfl) h6
    rw[hM.not_yet x] at this;cases this
   obtain ⟨q,l⟩:=I k
   have hb:=(H.o.below k).1
   have r:=yb k;have s:=yb q;have m:=yb l
   clear k q l
   have n8:f.getD 8 false=false:=by
    rw[yj];intro h6
    have:=A3 hM.down 20 8 7 (by kernel_rfl) h6
    rw[hM.not_yet x] at this;cases this
   have aw:=yb n8
   have V:=yb (H.o.p00 n8)
   have X:Hid (48 < a.tmps.size):=yb (by rw[hM.tmps,hz];decide)
   clear n8 D z G F E y A C hi1 hi2 I hb
   obtain rfl:=yh J
   go_simp
   have R:Below w'.heap.size w' (w'.alloc (.cells #[.string r1.name,iV r1.n] 23)):=(yg _ _).alloc (yf _) _
   refine ⟨_,rfl,⟨fun _=>⟨V.o.1.up R,fun _=>?_,fun T=>?_⟩,fun K=>?_,fun h=>?_,fun h=>?_,fun h=>?_⟩,trivial,trivial⟩
   ·rw[AZ _ X.o];exact Jh V.o.1 r1
   ·rw[Ac (by decide)] at T
    rw[CM _ (by decide)]
    exact (V.o.2.2 T).up R
   ·rw[Ac (by decide),aw.o] at K;cases K
   ·rw[Ac (by decide),r.o] at h;cases h
   ·rw[Ac (by decide),s.o] at h;cases h
   ·rw[Ac (by decide),m.o] at h;cases h
  |8,_=>
   have d:a.tmps[41]?.getD undef=va:=hM.dep x 0 41 (by kernel_rfl) (by kernel_rfl)
   have k:f.getD 17 false=false:=by
    rw[yj];intro h6
    have:=A3 hM.down 20 17 8 (by kernel_rfl) h6
    rw[hM.not_yet x] at this;cases this
   obtain ⟨q,l⟩:=I k
   have hb:=(H.o.below k).1
   have r:=yb k;have s:=yb q;have m:=yb l
   clear k q l
   have n8:=hM.not_yet x
   have l7:f.getD 7 false=true:=hM.came x 7 (by kernel_rfl)
   obtain ⟨S,k2,k3⟩:=H.o.p00 n8
   obtain ⟨g,ah,hg,_,_⟩:=k2 l7
   have HL:Hid (8 < f.size):=yb (by rw[Z];show 8 < 20;omega)
   have X:Hid (49 < a.tmps.size):=yb (by rw[hM.tmps,hz];decide)
   rw[yH] at ah
   refine F7 base (.tmp 41) (.tmp 48) (by obtain rfl:=yh J;rfl) va la (by simpa[Act.eval] using d) S.a r1 g 1 (by simpa[Act.eval] using ah) hg au S.size ?_
   intro v' w5 P a0 W
   obtain rfl:=yh J
   refine ⟨v',rfl,⟨fun K=>?_,fun _ _=>⟨?_,fun T=>?_⟩,fun h=>?_,fun h=>?_,fun h=>?_⟩,trivial,trivial⟩
   ·simp[HL.o] at K
   ·show Mv W0 base w5 ((a.put (some 49) v').tmps.getD 49 undef) _ vb lb
    rw[AZ _ X.o];exact S.putA P a0 W
   ·rw[Ac (by decide)] at T
    show G9 w5 ((a.put (some 49) v').tmps.getD 49 undef) vb ((a.put (some 49) v').tmps.getD 57 undef) r2
    rw[AZ _ X.o,CM _ (by decide)]
    exact (k3 T).grown a0 W
   ·rw[Ac (by decide),r.o] at h;cases h
   ·rw[Ac (by decide),s.o] at h;cases h
   ·rw[Ac (by decide),m.o] at h;cases h
  |9,_=>
   have d:=hM.old x 5 (by kernel_rfl) _ a8
   have k:f.getD 17 false=false:=by
    rw[yj];intro h6
    have:=A3 hM.down 20 17 9 (by kernel_rfl) h6
    rw[hM.not_yet x] at this;cases this
   obtain ⟨q,l⟩:=I k
   have hb:=(H.o.below k).1
   have r:=yb k;have s:=yb q;have m:=yb l
   clear k q l
   have c:=(hb.cell (p:=(aV B5 0)) am).trans z
   clear D z G F E y A C hi1 hi2 I hb
   obtain rfl:=yh J
   go_simp
   exact ⟨_,rfl,H.o.quiet r.o s.o m.o (by decide) (by decide),trivial,rfl⟩
  |10,_=>
   have d:=hM.old x 3 (by kernel_rfl) _ ax
   have k:f.getD 17 false=false:=by
    rw[yj];intro h6
    have:=A3 hM.down 20 17 10 (by kernel_rfl) h6
    rw[hM.not_yet x] at this;cases this
   obtain ⟨q,l⟩:=I k
   have hb:=(H.o.below k).1
   have r:=yb k;have s:=yb q;have m:=yb l
   clear k q l D z G F E y A C hi1 hi2 I hb
   obtain rfl:=yh J
   go_simp
   exact ⟨_,rfl,H.o.quiet r.o s.o m.o (by decide) (by decide),trivial,rfl⟩
  |11,_=>
   have d:a.tmps[51]?.getD undef=pV B3 21:=hM.dep x 10 51 (by kernel_rfl) (by kernel_rfl)
   have k:f.getD 17 false=false:=by
    rw[yj];intro h6
    have:=A3 hM.down 20 17 11 (by kernel_rfl) h6
    rw[hM.not_yet x] at this;cases this
   obtain ⟨q,l⟩:=I k
   have hb:=(H.o.below k).1
   have r:=yb k;have s:=yb q;have m:=yb l
   clear k q l
   have c:=(hb.cell (p:=(aV B3 21)) b3).trans F
   clear D z G F E y A C hi1 hi2 I hb
   obtain rfl:=yh J
   go_simp
   exact ⟨_,rfl,H.o.quiet r.o s.o m.o (by decide) (by decide),trivial,rfl⟩
  |12,_=>
   have d:=hM.old x 8 (by kernel_rfl) _ aj
   have k:f.getD 17 false=false:=by
    rw[yj];intro h6
    have:=A3 hM.down 20 17 12 (by kernel_rfl) h6
    rw[hM.not_yet x] at this;cases this
   obtain ⟨q,l⟩:=I k
   have hb:=(H.o.below k).1
   have r:=yb k;have s:=yb q;have m:=yb l
   clear k q l D z G F E y A C hi1 hi2 I hb
   obtain rfl:=yh J
   go_simp
   exact ⟨_,rfl,H.o.quiet r.o s.o m.o (by decide) (by decide),trivial,rfl⟩
  |13,_=>
   have d1:a.tmps[52]?.getD undef=.slice (some (aV b2 o2)) n2 c2:=hM.dep x 11 52 (by kernel_rfl) (by kernel_rfl)
   have d2:a.tmps[53]?.getD undef=iV i:=hM.dep x 12 53 (by kernel_rfl) (by kernel_rfl)
   have av:(i:Int) < (n2:Int):=by omega
   have k:f.getD 17 false=false:=by
    rw[yj];intro h6
    have:=A3 hM.down 20 17 13 (by kernel_rfl) h6
    rw[hM.not_yet x] at this;cases this
   obtain ⟨q,l⟩:=I k
   have hb:=(H.o.below k).1
   have r:=yb k;have s:=yb q;have m:=yb l
   clear k q l D z G F E y A C hi1 hi2 I hb
   obtain rfl:=yh J
   go_simp
   exact ⟨_,rfl,H.o.quiet r.o s.o m.o (by decide) (by decide),trivial,rfl⟩
  |14,_=>
   have d:a.tmps[54]?.getD undef=pV b2 (o2+i*51):=hM.dep x 13 54 (by kernel_rfl) (by kernel_rfl)
   have k:f.getD 17 false=false:=by
    rw[yj];intro h6
    have:=A3 hM.down 20 17 14 (by kernel_rfl) h6
    rw[hM.not_yet x] at this;cases this
   obtain ⟨q,l⟩:=I k
   have hb:=(H.o.below k).1
   have r:=yb k;have s:=yb q;have m:=yb l
   clear k q l D z G F E y A C hi1 hi2 I hb
   obtain rfl:=yh J
   go_simp
   exact ⟨_,rfl,H.o.quiet r.o s.o m.o (by decide) (by decide),trivial,rfl⟩
  |15,_=>
   have d:a.tmps[55]?.getD undef=pV b2 (o2+i*51+1):=hM.dep x 14 55 (by kernel_rfl) (by kernel_rfl)
   have k:f.getD 17 false=false:=by
    rw[yj];intro h6
    have:=A3 hM.down 20 17 15 (by kernel_rfl) h6
    rw[hM.not_yet x] at this;cases this
   obtain ⟨q,l⟩:=I k
   have hb:=(H.o.below k).1
   have r:=yb k;have s:=yb q;have m:=yb l
   clear k q l
   have c:=(hb.cell (p:=(aV b2 (o2+i*51+1))) al).trans y
   have c1:=(hb.cell (p:=(aV b2 (o2+i*51+1+1))) al).trans C
   clear D z G F E y A C hi1 hi2 I hb
   obtain rfl:=yh J
   go_simp
   exact ⟨_,rfl,H.o.quiet r.o s.o m.o (by decide) (by decide),trivial,rfl⟩
  |16,_=>
   have d:a.tmps[56]?.getD undef=.agg #[.string r2.name,iV r2.n]:=hM.dep x 15 56 (by kernel_rfl) (by kernel_rfl)
   have k:f.getD 17 false=false:=by
    rw[yj];intro h6
    have:=A3 hM.down 20 17 16 (by kernel_rfl) h6
    rw[hM.not_yet x] at this;cases this
   obtain ⟨q,l⟩:=I k
   have hb:=(H.o.below k).1
   have r:=yb k;have s:=yb q;have m:=yb l
   clear k q l
   have X:Hid (57 < a.tmps.size):=yb (by rw[hM.tmps,hz];decide)
   clear D z G F E y A C hi1 hi2 I hb
   obtain rfl:=yh J
   go_simp
   have R:Below w'.heap.size w' (w'.alloc (.cells #[.string r2.name,iV r2.n] 23)):=(yg _ _).alloc (yf _) _
   refine ⟨_,rfl,⟨fun K=>?_,fun K _=>?_,fun h=>?_,fun h=>?_,fun h=>?_⟩,trivial,trivial⟩
   ·rw[Ac (by decide)] at K
    obtain ⟨S,k2,k3⟩:=H.o.p00 K
    refine ⟨S.up R,fun h7=>?_,fun _=>?_⟩
    ·rw[Ac (by decide)] at h7
     rw[CM _ (by decide)]
     exact (k2 h7).up R
    ·rw[AZ _ X.o];exact Jh S r2
   ·rw[Ac (by decide)] at K
    obtain ⟨S,k3⟩:=H.o.p10 K r.o
    rw[CM _ (by decide),AZ _ X.o]
    exact ⟨S.up R,fun _=>Jh S r2⟩
   ·rw[Ac (by decide),r.o] at h;cases h
   ·rw[Ac (by decide),s.o] at h;cases h
   ·rw[Ac (by decide),m.o] at h;cases h
  |17,_=>
   have d:a.tmps[50]?.getD undef=vb:=hM.dep x 9 50 (by kernel_rfl) (by kernel_rfl)
   have k:=hM.not_yet x
   obtain ⟨q,l⟩:=I k
   have l8:f.getD 8 false=true:=hM.came x 8 (by kernel_rfl)
   have ay:f.getD 16 false=true:=hM.came x 16 (by kernel_rfl)
   obtain ⟨S,k3⟩:=H.o.p10 l8 k
   obtain ⟨g,ae,hg,_,_⟩:=k3 ay
   have HL:Hid (17 < f.size):=yb (by rw[Z];show 17 < 20;omega)
   have X:Hid (58 < a.tmps.size):=yb (by rw[hM.tmps,hz];decide)
   rw[yH] at ae
   refine F7 base (.tmp 50) (.tmp 57) (by obtain rfl:=yh J;rfl) vb lb (by simpa[Act.eval] using d) S.b r2 g 1 (by simpa[Act.eval] using ae) hg aq S.size ?_
   intro v' w5 P a0 W
   obtain rfl:=yh J
   refine ⟨v',rfl,⟨fun K=>?_,fun _ M=>?_,fun _ _=>?_,fun h=>?_,fun h=>?_⟩,trivial,trivial⟩
   ·rw[Ac (by decide),l8] at K;cases K
   ·simp[HL.o] at M
   ·show Mv W0 base w5 ((a.put (some 58) v').tmps.getD 49 undef) _ ((a.put (some 58) v').tmps.getD 58 undef) _
    rw[AZ _ X.o,CM _ (by decide)]
    exact (S.swap.putA P a0 W).swap
   ·rw[Ac (by decide),q] at h;cases h
   ·rw[Ac (by decide),l] at h;cases h
  |18,_=>
   have d:=hM.old x 4 (by kernel_rfl) _ an
   have L:f.getD 17 false=true:=hM.came x 17 (by kernel_rfl)
   have nk:=hM.not_yet x
   have l:f.getD 19 false=false:=by
    rw[yj];intro h6
    have:=A3 hM.down 20 19 18 (by kernel_rfl) h6
    rw[nk] at this;cases this
   have V:=yb (H.o.p11 L nk)
   have m:=yb l;have U:=yb L
   have hv:∃ad n c,a.tmps[49]?.getD undef=.slice ad n c:=by
    rw[<-yH]
    rcases V.o.a.2 with ⟨e,_⟩|⟨_,_,_,e,_⟩
    ·exact ⟨_,_,_,e⟩
    ·exact ⟨_,_,_,e⟩
   have N:w'.heap[B4]?=W0.heap[B4]?:=V.o.below.block B4 ai
   have l8:f.getD 8 false=true:=A3 hM.down 20 17 8 (by kernel_rfl) L
   have a2:=yb l8
   obtain ⟨ad,nv,cv,dv⟩:=hv
   have HV:=yb dv
   obtain ⟨u0,O⟩:=af
   have fz:w'.frozen? (aV B4 0)=false:=by unfold World.frozen?;rw[N,O];rfl
   have c2:w'.cell? (aV B4 0)=some u0:=by simp[World.cell?,N,O]
   have HL:Hid (18 < f.size):=yb (by rw[Z];show 18 < 20;omega)
   clear D z G F E y A C hi1 hi2 I N O l8 L
   obtain rfl:=yh J
   go_simp
   refine ⟨undef,rfl,⟨fun K=>?_,fun _ M=>?_,fun _ Y=>?_,fun _ _=>⟨w',V.o,?_⟩,fun h=>?_⟩,trivial,trivial⟩
   ·rw[Ac (by decide),a2.o] at K;cases K
   ·rw[Ac (by decide),U.o] at M;cases M
   ·simp[HL.o] at Y
   ·rw[yH];show w'.setCell _ _=w'.setCell _ (a.tmps[49]?.getD undef);rw[HV.o]
   ·rw[Ac (by decide),m.o] at h;cases h
  |19,_=>
   have d:=hM.old x 5 (by kernel_rfl) _ a8
   have a7:f.getD 18 false=true:=hM.came x 18 (by kernel_rfl)
   have L:f.getD 17 false=true:=A3 hM.down 20 18 17 (by kernel_rfl) a7
   have nk:=hM.not_yet x
   obtain ⟨w1,hp,a6⟩:=H.o.p18 a7 nk
   have V:=yb hp;have az:=yb a6;have U:=yb L;have ag:=yb a7
   have hv:∃ad n c,a.tmps[58]?.getD undef=.slice ad n c:=by
    rw[<-yH]
    rcases V.o.b.2 with ⟨e,_⟩|⟨_,_,_,e,_⟩
    ·exact ⟨_,_,_,e⟩
    ·exact ⟨_,_,_,e⟩
   have N:w'.heap[B5]?=W0.heap[B5]?:=by
    rw[a6,yT _ _ _ _ (fun e=>b4 e.symm)];exact V.o.below.block B5 am
   clear a6 hp
   have l8:f.getD 8 false=true:=A3 hM.down 20 17 8 (by kernel_rfl) L
   have a2:=yb l8
   obtain ⟨ad,nv,cv,dv⟩:=hv
   have HV:=yb dv
   obtain ⟨u0,O⟩:=ak
   have fz:w'.frozen? (aV B5 0)=false:=by unfold World.frozen?;rw[N,O];rfl
   have c2:w'.cell? (aV B5 0)=some u0:=by simp[World.cell?,N,O]
   have HL:Hid (19 < f.size):=yb (by rw[Z];show 19 < 20;omega)
   clear D z G F E y A C hi1 hi2 I N O l8 L
   obtain rfl:=yh J
   go_simp
   refine ⟨undef,rfl,⟨fun K=>?_,fun _ M=>?_,fun _ Y=>?_,fun _ ao=>?_,fun _=>⟨w1,_,_,V.o,?_⟩⟩,trivial,trivial⟩
   ·rw[Ac (by decide),a2.o] at K;cases K
   ·rw[Ac (by decide),U.o] at M;cases M
   ·rw[Ac (by decide),ag.o] at Y;cases Y
   ·simp[HL.o] at ao
   ·rw[<-az.o,yH];show w'.setCell _ _=w'.setCell _ (a.tmps[58]?.getD undef);rw[HV.o]
 ·intro f a w' aa hM
  obtain ⟨w1,v1,v2,hp,rfl⟩:=hM.ext.p19 (aa 19 (show 19 < 20 by omega))
  exact hQ a w1 v1 v2 (hM.tmps.trans hz) hM.defers (FQ (lo:=41) (hi:=58) (by kernel_rfl) hM) hp
def U9(w:World)(h:Ai)(l:List Rf):Prop:=h.n=l.length∧l.length<=140737488355328∧∀i (hi:i < l.length),∃b o,h.a=some ⟨b,o,none⟩∧b < w.heap.size∧w.cell? ⟨b,o+i*2,none⟩=some (.string l[i].name)∧w.cell? ⟨b,o+i*2+1,none⟩=some (.int .i64 l[i].n)
theorem QD{a b:ByteArray}(h:a.toList=b.toList):a=b:=by
 rw[zL,zL] at h
 cases a;cases b;simpa using h
theorem M3{w:World}{h1 h2:Ai}{b a:List Rf}(r1:U9 w h1 b)(r2:U9 w h2 a):
  Calls Try.prog 64 #[h1.v,h2.v] w fun e w'=>e=.returned (.bool (decide (b=a)))∧Below w.heap.size w w':=by
 obtain ⟨T,n1,c1⟩:=h1
 obtain ⟨S,n2,c2⟩:=h2
 have R1:=yb r1.2.2;have R2:=yb r2.2.2
 have n:=yb r1.1;have r:=yb r2.1
 have J:n1<=140737488355328:=by have:=r1.1;have:=r1.2.1;simp only at*;omega
 have F:n2<=140737488355328:=by have:=r2.1;have:=r2.2.1;simp only at*;omega
 unfold Ai.v
 simp only at R1 R2 n r ⊢
 clear r1 r2
 by_cases G:n1=n2
 ·subst G
  have t:((n1:Int) !=(n1:Int))=false:=by simp
  go_enter Try.func64,Try.ntmps64
  go_wp2
  have y:=yb (yg w.heap.size w)
  go_loopw [13] (fun x wr=>∃i:Nat,i<=n1∧x=iV i∧Hid (b.take i=a.take i)∧Hid (Below w.heap.size w wr)) (fun x _=>n1 - (intOf x).toNat)
  case atStart=>exact ⟨0,yC _,rfl,yb (by simp),y⟩
  case round=>
   obtain ⟨i,hi,rfl,I,c⟩:=hrel
   by_cases q:i < n1
   ·have s:(i:Int) < (n1:Int):=by omega
    have f:i < b.length:=by rw[<-n.o];exact q
    have d:i < a.length:=by rw[<-r.o];exact q
    obtain ⟨b1,o1,rfl,k,C,D⟩:=R1.o i f
    obtain ⟨b2,o2,rfl,g,A,B⟩:=R2.o i d
    have m:Hid (b[i]=a[i]->b.take (i+1)=a.take (i+1)):=yb (fun e=>by
     rw[yt f,yt d,I.o,e])
    have l:Hid (b[i]≠a[i]->decide (b=a)=false):=yb (fun e=>xR (fun h=>e (by subst h;rfl)))
    generalize b[i]=N at C D m l
    generalize a[i]=P at A B m l
    obtain ⟨m1,H⟩:=N
    obtain ⟨z,K⟩:=P
    have R:wr.cell? (aV b1 (o1+i*2))=some (.string m1):=(c.o.cell (p:=(aV b1 _)) k).trans C
    have L:wr.cell? (aV b1 (o1+i*2+1))=some (iV H):=(c.o.cell (p:=(aV b1 _)) k).trans D
    have O:wr.cell? (aV b2 (o2+i*2))=some (.string z):=(c.o.cell (p:=(aV b2 _)) g).trans A
    have M:wr.cell? (aV b2 (o2+i*2+1))=some (iV K):=(c.o.cell (p:=(aV b2 _)) g).trans B
    clear C D A B f d k g
    by_cases u:m1.toList=z.toList
    ·obtain rfl:m1=z:=QD u
     clear u
     by_cases hk:H=K
     ·subst hk
      have E:=yb (m.o rfl)
      clear m l
      go_wp2_with fail
      go_region
      go_wp2
      exact ⟨⟨i+1,by omega,by push_cast;rfl,E,yb c.o.drew⟩,by simp[intOf];omega⟩
     ·have j:=yb (l.o (fun h=>hk (Rf.mk.inj h).2))
      clear m l
      go_wp2_with fail
      go_region
      go_wp2
      go_ret
      exact ⟨by rw[j.o];rfl,c.o.drew⟩
    ·have j:=yb (l.o (fun h=>u (by rw[(Rf.mk.inj h).1])))
     clear m l
     go_wp2_with fail
     go_region
     go_wp2
     go_ret
     exact ⟨by rw[j.o];rfl,c.o.drew⟩
   ·obtain rfl:i=n1:=by omega
    have s:decide ((i:Int) < (i:Int))=false:=by simp
    go_wp2
    go_ret
    have Q:b=a:=by
     have h1:=I.o
     rw[n.o,yx,<-n.o,r.o,yx] at h1
     exact h1
    exact ⟨by rw[decide_eq_true Q];rfl,c.o⟩
 ·have t:((n1:Int) !=(n2:Int))=true:=by simp;omega
  go_enter Try.func64,Try.ntmps64
  go_wp2
  go_ret
  exact ⟨by rw[xR (fun h=>G (by rw[n.o,r.o,h]))];rfl,yg _ _⟩
structure DW (W0:World) (Bx:Nat) (l:List Rf) (O:Nat->Prop) (V:World):Prop where
 grown:W0.grownBy V (some Bx)
 ownO:∀b,O b->W0.heap.size<=b
 row:∃v,V.heap[Bx]?=some (.cells #[v] 127 (0,0))∧D6 W0.heap.size V v l∧∀g,v.ownBlock=some g->¬ O g
section
variable{W0 V w1:World}{Bx:Nat}{l:List Rf}{O:NP}
theorem DW.stays(s:Bx < W0.heap.size)(f:Nat->List Rf):E6 (fun k=>DW W0 Bx (f k)):=by
 intro k O W t W' h q o p r hk m
 obtain ⟨v,r1,r2,n⟩:=h.row
 have j:=h.grown.size
 have d:W'.heap[Bx]?=W.heap[Bx]?:=hk Bx (fun hb=>by have:=h.ownO Bx hb;omega) (by omega)
 refine ⟨⟨o.trans h.grown.os,p.trans h.grown.tape,r.trans h.grown.output,yl j q,fun b hb c=>(hk b (fun e=>by have:=h.ownO b e;omega) (by omega)).trans (h.grown.block b hb c)⟩,fun b hb=>?_,v,d.trans r1,r2.up (fun g a i=>hk g (n g a) i),fun g a l=>?_⟩
 ·rcases m b hb with h1|h1
  ·exact h.ownO b h1
  ·omega
 ·rcases m g l with h1|h1
  ·exact n g a h1
  ·have:=(r2.lt a).2;omega
theorem DW.same(h:DW W0 Bx l O V){b:Nat}(hb:b < W0.heap.size)(a:b≠Bx):V.heap[b]?=W0.heap[b]?:=h.grown.block b hb (fun e=>a (yh e))
theorem DW.start(W0:World)(hb:W0.heap[Bx]?=some (.cells #[.slice none 0 0] 127 (0,0))):DW W0 Bx [] (fun _=>False) W0:=
 ⟨⟨rfl,rfl,rfl,yf _,fun _ _ _=>rfl⟩,fun _ h=>h.elim,_,hb,Su _ _,fun g a=>by cases a⟩
theorem DW.put(h:DW W0 Bx l O V)(y:Bx < W0.heap.size)(p:∀b,O b->b < V.heap.size){va v:Value}{r:Rf}(m:V.cell? ⟨Bx,0,none⟩=some va)(d:U8 V W0.heap.size va l r w1 v):DW W0 Bx (l++[r]) O (w1.setCell ⟨Bx,0,none⟩ v)∧BL O V (w1.setCell ⟨Bx,0,none⟩ v):=by
 obtain ⟨v0,r1,r2,q⟩:=h.row
 obtain rfl:va=v0:=by
  have e:V.cell? (aV Bx 0)=some v0:=by simp[World.cell?,r1]
  rw[m] at e;exact yh e
 have f:∀g,va.ownBlock=some g->W0.heap.size<=g:=fun g i=>(r2.lt i).1
 have n:w1.heap[Bx]?=V.heap[Bx]?:=d.grown.block Bx (by have:=h.grown.size;omega) (fun e=>by have:=f _ e.symm;omega)
 have x:=h.grown.size
 have u:=d.grown.size
 have j:∀b,b≠Bx->(w1.setCell (aV Bx 0) v).heap[b]?=w1.heap[b]?:=fun b c=>yT _ _ _ _ c
 have a:∀b,b≠Bx->b < V.heap.size->va.ownBlock≠some b->(w1.setCell (aV Bx 0) v).heap[b]?=V.heap[b]?:=fun b c o t=>(j b c).trans (d.grown.block b o (fun e=>t e.symm))
 refine ⟨⟨⟨d.grown.os.trans h.grown.os,d.grown.tape.trans h.grown.tape,d.grown.output.trans h.grown.output,by simp;omega,fun b hb c=>?_⟩,h.ownO,v,?_,d.own.up (fun g i _=>j g (fun e=>by have:=(d.own.lt i).1;omega)),fun g i k=>?_⟩,by simp;omega,fun b hb=>?_⟩
 ·rw[a b (fun e=>c (by rw[e])) (by omega) (fun e=>by have:=f _ e;omega)]
  exact h.grown.block b hb c
 ·have:=z7 w1 Bx 0 #[va] 127 v (n.trans r1)
  rw[this];rfl
 ·rcases d.blk with e|⟨w,e,s⟩
  ·rw[e] at i;exact q g i k
  ·rw[e] at i;cases i
   have:=p g k;omega
 ·exact a b (fun e=>by have:=h.ownO b hb;omega) (p b hb) (fun e=>q b e hb)
end
section
variable{f:Int->Ex->Ex}{g:Int->Rf->Rf}
def QE(f:Int->Ex->Ex)(e:KD):KD:=(f e.2 e.1,e.2)
theorem BP{α β:Type}(F:Nat->α->β)(l:List α):(l.mapIdx F).zipIdx=l.zipIdx.map fun p=>(F p.2 p.1,p.2):=by
 apply zn
 ·simp
 ·intro i h1 h2;simp
theorem Ua(l:List CF):Ie (l.mapIdx (CF.mp f))=(Ie l).map (QE f):=by
 unfold Ie;rw[BP,zY,xm];rfl
theorem Sv(l:List Br):Fu (l.mapIdx (Br.mp f))=(Fu l).map (QE f):=by
 unfold Fu;rw[BP,zY,xm];rfl
theorem Pj(l:List At):Du (l.mapIdx (At.mp f g))=(Du l).map (QE f):=by
 unfold Du;rw[BP,zY,xm];rfl
theorem Sw(l:List Bd):Fv (l.mapIdx (Bd.mp f g))=(Fv l).map (QE f):=by
 unfold Fv;rw[BP,zY,xm];rfl
theorem Sx(l:List Bv):DD (l.mapIdx (Bv.mp f g))=(DD l).map (QE f):=by
 unfold DD;rw[BP,zY,xm];rfl
theorem Ub(l:List B6):HY (l.mapIdx (B6.mp f g))=(HY l).map (QE f):=by
 unfold HY;rw[BP,zY,xm]
 congr 1
 funext p
 rw[zb,<-Sx (g:=g)]
 rfl
theorem QF(l:List AG):Eo (l.mapIdx (AG.mp f g))=(Eo l).map (QE f):=by
 unfold Eo;rw[BP,zY,xm];rfl
theorem QG(l:List BR):Ep (l.mapIdx (BR.mp f g))=(Ep l).map (QE f):=by
 unfold Ep;rw[BP,zY,xm];rfl
theorem IQ(x:Am):AN (x.mp f g)=(AN x).map (QE f):=by
 unfold AN Am.mp
 simp only[zb,<-Ua,<-Sv,<-Pj (g:=g),<-Sw (g:=g),<-Ub (g:=g),<-QF (g:=g),<-QG (g:=g)]
 rfl
theorem DQ{α β:Type}{F:Nat->α->β}{l:List α}{p:β->Bool}{q:α->Bool}(h:l.all q=true)(a:∀i d,q d=true->p (F i d)=true):(l.mapIdx F).all p=true:=by
 rw[yO] at h ⊢
 intro b hb
 obtain ⟨i,hi,rfl⟩:=zg.1 hb
 rw[zs]
 exact a i _ (h _ (yz _))
end
section
variable{t:Tb}
theorem Iq(l:List Ex):(Hn t l).length=l.length:=by rw[NM];simp
mutual
theorem M4:∀e:Ex,AJ (Jc t e)=AJ e
 |.mk op n u rn ri args=>by rw[Jc,AJ,AJ,M5 args]
theorem M5:∀l:List Ex,Bq (Hn t l)=Bq l
 |[]=>rfl
 |e::r=>by rw[Hn,Bq,Bq,M4 e,M5 r]
end
theorem Sy(e:Ex):CQ (Jc t e)=CQ e:=by
 cases e with
 |mk op n u rn ri args=>
  rw[Jc]
  unfold CQ Gi
  simp only[Ex.op,Ex.n,Ex.u,Ex.rn,Ex.ri,Ex.args,Iq]
  by_cases h:op=2
  ·subst h;simp
  ·rw[yu h];rfl
theorem Ir{to at_:Int}{r:Rf}(h:Hl t to at_ r=true):Hl t to at_ (gT t to r)=true:=by
 unfold gT
 by_cases h0:to=0
 ·rw[yw h0];exact h
 ·rw[yu h0]
  unfold Hl at h ⊢
  rw[yu h0] at h ⊢
  exact h
theorem Xf{to at_:Int}{rn:ByteArray}{ri rj:Int}(h0:to≠0):Hl t to at_ ⟨rn,ri⟩=Hl t to at_ ⟨rn,rj⟩:=by
 unfold Hl;rw[yu h0,yu h0]
mutual
theorem Ru(lt:Int):∀e:Ex,T6 t lt (Jc t e)=T6 t lt e
 |.mk op n u rn ri args=>by
  rw[Jc,T6,T6,Iq,Rv lt args]
  by_cases h:op=2
  ·rw[yw h,Xf (rj:=ri) (by unfold Kt;rw[yw h];split<;>decide)]
  ·rw[yu h]
theorem Rv(lt:Int):∀l:List Ex,Re t lt (Hn t l)=Re t lt l
 |[]=>rfl
 |e::r=>by rw[Hn,Re,Re,Ru lt e,Rv lt r]
end
theorem Vo(e:KD):AP t (QE (fT t) e)=AP t e:=by
 unfold AP QE fT
 simp only
 by_cases h:CQ e.1=true
 ·simp[h]
 ·rw[yu h,Sy,Ru]
theorem Uc(lt:Int)(e:Ex):AJ (fT t lt e)=AJ e:=by
 unfold fT;split
 ·rfl
 ·exact M4 e
theorem Ng{x:Am}(h:CV t x=true):CV t (x.mp (fT t) (gT t))=true:=by
 unfold CV at h ⊢
 simp only[yv] at h ⊢
 obtain ⟨h1,h2,h3,h4,h5,h6⟩:=h
 refine ⟨?_,?_,?_,?_,?_,?_⟩
 ·rw[IQ,List.all_map]
  rw[yO] at h1 ⊢
  intro e a
  have:=h1 e a
  simp only[Function.comp,Vo];exact this
 ·unfold Co at h2 ⊢
  exact DQ h2 fun _ _ h=>h
 ·refine DQ h3 fun i d h=>?_
  unfold Jd at h ⊢
  simp only[yv] at h ⊢
  exact ⟨Ir h.1,Ir h.2⟩
 ·refine DQ h4 fun i d h=>?_
  unfold LG at h ⊢
  simp only[yv] at h ⊢
  exact ⟨Ir h.1,DQ h.2 fun _ _ h=>Ir h⟩
 ·refine DQ h5 fun i d h=>?_
  unfold Ho at h ⊢
  simp only[yv] at h ⊢
  exact ⟨Ir h.1,Ir h.2⟩
 ·refine DQ h6 fun i d h=>?_
  unfold Je at h ⊢
  simp only[yv] at h ⊢
  exact ⟨Ir h.1,Ir h.2⟩
theorem Rw{x:Am}(h:B9 x=true):B9 (x.mp (fT t) (gT t))=true:=by
 unfold B9 at h ⊢
 simp only[yv] at h ⊢
 obtain ⟨h1,h2,h3⟩:=h
 refine ⟨?_,?_,?_⟩
 ·unfold Ju at h1 ⊢
  simpa[Am.mp] using h1
 ·unfold Gl at h2 ⊢
  refine DQ h2 fun i d h=>?_
  simpa[B6.mp] using h
 ·unfold Es at h3 ⊢
  rw[IQ,List.all_map]
  rw[yO] at h3 ⊢
  intro e a
  simpa[QE,Uc] using h3 e a
end
theorem F1{x:Am}(h:Ay x=0):B9 x=true∧Cs x=true∧Eu x∧Dp (Tb.of x) x=true∧CV (Tb.of x) x=true:=by
 unfold Ay at h
 by_cases h1:B9 x=true
 ·rw[yw h1] at h
  by_cases h2:Cs x=true
  ·rw[yw h2] at h
   by_cases h3:Eu x
   ·rw[yw h3] at h
    by_cases h4:(Dp (Tb.of x) x&&CV (Tb.of x) x)=true
    ·rw[yv] at h4;exact ⟨h1,h2,h3,h4⟩
    ·rw[yu h4] at h;cases h
   ·rw[yu h3] at h;cases h
  ·rw[yu h2] at h;cases h
 ·rw[yu h1] at h;cases h
theorem Is(x:Am):(Ab x).reaches.length=x.reaches.length:=by unfold Ab Am.mp;simp
structure Dr (W:World) (s top:Nat) (x:Am) (L:Bw) (cs:List Value) (N:Nat->Prop):Prop where
 src:Bb N W L cs x
 at0:L.s=s
 range:W.rangeAt s 0 cs
 lt:∀b,VV N s b->b < top
section
variable{W W':World}{s top:Nat}{x:Am}{L:Bw}{cs:LV}{N:NP}
theorem Dr.up(h:Dr W s top x L cs N)(hb:∀b,b < top->W'.heap[b]?=W.heap[b]?):Dr W' s top x L cs N:=
 ⟨h.src.same (fun _ h=>h) (fun b hN=>hb b (h.lt b (.inr hN))),h.at0,A2 h.range (hb s (h.lt s (.inl rfl))),h.lt⟩
theorem Dr.head(h:Dr W s top x L cs N):W.cell? ⟨s,21,none⟩=some (.slice L.reaches.a L.reaches.n L.reaches.c):=by
 have:=h.range 21 _ h.src.at.reaches
 rw[yB] at this;exact this
theorem Dr.frm(h:Dr W s top x L cs N){i:Nat}(hi:i < x.reaches.length):∃b o,L.reaches.a=some ⟨b,o,none⟩∧b < top∧W.cell? ⟨b,o+i*51+1,none⟩=some (.string x.reaches[i].frm.name)∧W.cell? ⟨b,o+i*51+1+1,none⟩=some (.int .i64 x.reaches[i].frm.n):=by
 obtain ⟨b,o,c,g1,e,l,d,_,_,c0,c1,c2,j,c4,k,f,g,rfl,_⟩:=h.src.reaches.2.2 i hi
 exact ⟨b,o,g1,h.lt b (.inr e),d 1 _ rfl,d 2 _ rfl⟩
end
structure Rx (Q:Exit->Act->World->Prop) (w:World) (x:Am):Prop where
 early:∀(c:Int) tm W,tm.getD 2 undef=.int .i64 c->Below w.heap.size w W->FC x=c->Q .ret {tmps:=tm,defers:=[]} W
 done:∀(c:Int) D1 D2 tm W,tm.getD 2 undef=.int .i64 c->Below w.heap.size w W->FC x=c->D1≠D2->w.heap.size<=D1->w.heap.size<=D2->W.heap[D1]?=some (.deferred (some []))->W.heap[D2]?=some (.deferred (some []))->Q .ret {tmps:=tm,defers:=[KG D2,KG D1]} W
theorem Ud(w:World)(x:Am):Rx (bodyPostM Fence.wide 10 Try.prog Try.f14 (fun e w'=>e=.returned (.int .i64 (FC x))∧Below w.heap.size w w')) w x:=by
 have a:∀(tm:Array Value) (c:Int) (W:World),tm.getD 2 undef=.int .i64 c->(results Try.f14 tm).run Try.prog W=.ok (.int .i64 c) W:=fun tm c W h=>by
  rw[yH] at h
  simp[results,Try.results14,h]
 refine ⟨fun c tm W h2 hb hc=>?_,fun c D1 j tm W h2 hb hc d h1 i g f=>?_⟩
 ·subst hc
  exact ⟨_,a tm _ W h2,rfl,hb⟩
 ·subst hc
  have e1:(W.putObj j (.deferred none)).heap[D1]?=some (.deferred (some [])):=(World.putObj_heap_other d).trans g
  refine ⟨by simp,.inl ⟨_,_,rfl,run_takeDeferred f,⟨by simp,.inl ⟨_,_,rfl,run_takeDeferred e1,⟨_,a tm _ _ h2,rfl,hb.trans ⟨rfl,rfl,rfl,by simp,fun b hb=>?_⟩⟩⟩⟩⟩⟩
  rw[World.putObj_heap_other (by omega),World.putObj_heap_other (by omega)]
structure Fk (V:World) (base B4 B5:Nat) (la lb:List Rf) (wr:World):Prop where
 os:wr.os=V.os
 tape:wr.tape=V.tape
 output:wr.output=V.output
 size:V.heap.size<=wr.heap.size
 low:base<=V.heap.size
 keep:∀(k:Nat) (o:Obj),k≠B4->k≠B5->V.heap[k]?=some o->(∀c f,o≠Obj.cells c 23 f)->wr.heap[k]?=some o
 block:∀b,b < base->b≠B4->b≠B5->wr.heap[b]?=V.heap[b]?
 rows:∃va vb,wr.heap[B4]?=some (.cells #[va] 127 (0,0))∧wr.heap[B5]?=some (.cells #[vb] 127 (0,0))∧Mv wr base wr va la vb lb
theorem Fk.put{V wr w1:World}{base B4 B5:Nat}{la lb:List Rf}(h:Fk V base B4 B5 la lb wr)(h4:B4 < base)(h5:B5 < base)(p:B4≠B5){f j:Value}{r1 r2:Rf}(c:Mv wr base w1 f (la++[r1]) j (lb++[r2])):Fk V base B4 B5 (la++[r1]) (lb++[r2]) ((w1.setCell ⟨B4,0,none⟩ f).setCell ⟨B5,0,none⟩ j):=by
 obtain ⟨va,vb,t,r5,y⟩:=h.rows
 have x:w1.heap[B4]?=some (.cells #[va] 127 (0,0)):=(c.below.block B4 h4).trans t
 have u:w1.heap[B5]?=some (.cells #[vb] 127 (0,0)):=(c.below.block B5 h5).trans r5
 have d:∀b,b≠B4->b≠B5->((w1.setCell ⟨B4,0,none⟩ f).setCell ⟨B5,0,none⟩ j).heap[b]?=w1.heap[b]?:=fun b i m=>(yT _ _ _ _ m).trans (yT _ _ _ _ i)
 have s:∀ {v:Value} {l:List Rf},D6 base w1 v l->D6 base ((w1.setCell ⟨B4,0,none⟩ f).setCell ⟨B5,0,none⟩ j) v l:=fun q=>q.up (fun g w _=>by
  have:=(q.lt w).1
  exact d g (by omega) (by omega))
 have n:((w1.setCell ⟨B4,0,none⟩ f).setCell ⟨B5,0,none⟩ j).heap.size=w1.heap.size:=by simp
 refine ⟨c.below.os.trans h.os,c.below.tape.trans h.tape,c.below.output.trans h.output,by rw[n];exact yl h.size c.below.size,h.low,fun k o i m q r=>(d k i m).trans (c.keep k o (h.keep k o i m q r) r),fun b hb i m=>?_,f,j,?_,?_,yg _ _,by rw[n];exact c.size,s c.a,s c.b,c.apart,fun _ _ h _=>h⟩
 ·rw[d b i m,c.below.block b hb];exact h.block b hb i m
 ·rw[yT _ _ _ _ p,z7 w1 B4 0 #[va] 127 f x];rfl
 ·have e:(w1.setCell ⟨B4,0,none⟩ f).heap[B5]?=some (.cells #[vb] 127 (0,0)):=(yT _ _ _ _ (fun e=>p e.symm)).trans u
  rw[z7 (w1.setCell ⟨B4,0,none⟩ f) B5 0 #[vb] 127 j e];rfl
theorem Fk.drew{V wr:World}{base B4 B5:Nat}{la lb:List Rf}(h:Fk V base B4 B5 la lb wr):Fk V base B4 B5 la lb wr.drew:=by
 obtain ⟨va,vb,d,r5,c⟩:=h.rows
 exact ⟨h.os,h.tape,h.output,h.size,h.low,h.keep,h.block,va,vb,d,r5,yg _ _,c.size,c.a,c.b,c.apart,fun _ _ h _=>h⟩
theorem D6.rf{B:Nat}{w:World}{v:Value}{l:List Rf}(h:D6 B w v l)(hl:l.length<=1000000000):∃h:Ai,v=h.v∧U9 w h l:=by
 obtain ⟨h1,⟨rfl,h2⟩|⟨g,cap,c,rfl,h4,h5,h6,m,o,k⟩⟩:=h
 ·obtain rfl:=ze.1 h2
  exact ⟨⟨none,0,0⟩,rfl,rfl,by simp,fun i hi=>absurd hi (by simp)⟩
 ·have hc:∀j u,(l.flatMap An)[j]?=some u->w.cell? ⟨g,j,none⟩=some u:=by
   intro j u a
   rw[<-k] at a
   have b:=(yA.1 a).1
   rw[yP] at b
   rw[zJ,yw (by omega)] at a
   simp only[World.cell?,h5]
   simpa using a
  have f:∀(l:List Rf) (i:Nat) (hi:i < l.length),(l.flatMap An)[i*2]?=some (.string l[i].name)∧(l.flatMap An)[i*2+1]?=some (.int .i64 l[i].n):=by
   intro l
   induction l with
   |nil=>intro i hi;simp at hi
   |cons x r ih=>
    intro i hi
    cases i with
    |zero=>exact ⟨rfl,rfl⟩
    |succ i=>
     have:=ih i (by simpa using hi)
     have e:((x::r).flatMap An)=An x++r.flatMap An:=rfl
     rw[e,yL (by simp[An];omega),yL (by simp[An];omega)]
     have hl:(An x).length=2:=rfl
     rw[hl,show (i+1)*2 - 2=i*2 by omega,show (i+1)*2+1 - 2=i*2+1 by omega]
     exact this
  refine ⟨⟨some ⟨g,0,none⟩,l.length,cap⟩,rfl,rfl,by omega,fun i hi=>?_⟩
  obtain ⟨d,g1⟩:=f l i hi
  refine ⟨g,0,rfl,(ye.1 h5).1,?_,?_⟩
  ·rw[yB];exact hc _ _ d
  ·rw[yB];exact hc _ _ g1
theorem IS{α:Type}{l:List α}{i:Nat}{a:α}(h:l[i]?=some a):l.take i++[a]=l.take (i+1):=by
 rw[List.take_add_one,h];rfl
theorem Xg{Q:QT}{w V:World}{x:Am}{L1 L2:Bw}{al am:LV}{N1 N2:NP}{base B3 B4 B5 D1 D:Nat}(hQ:Rx Q w x)(hw:Ay x=0)
 (h1:Dr V w.heap.size B4 x L1 al N1)(h2:Dr V B3 B4 (Ab x) L2 am N2)(ag:B4 < B5)(h5:B5 < base)(hb:Below w.heap.size w V)(hL:Fk V base B4 B5 (Bl x) (Bl (Ab x)) V)
 (hD:D1≠D∧w.heap.size<=D1∧w.heap.size<=D)(l:V.heap[D1]?=some (.deferred (some [])))(m:V.heap[D]?=some (.deferred (some [])))(E:(DH x).length<=900000000)(u:(DH (Ab x)).length<=900000000)
 (u0 u6 u7 u8 u9 u10 u11 u12 u13 u14 u15 u16 u17 u18 u19 u20 u21 u22 u23 u24 u25 u26 u27 u28 u29 u30 u31 u32 u33 u34 u35 u36 u37 u38 u39 u40 u41 u42 u43 u44 u45 u46 u47 u48 u49 u50 u51 u52 u53 u54 u55 u56 u57 u58 u59 u60 u61 u62 u63:Value):
  Hb 14 Try.prog (CJ 6 (Try.f14.body.getD .skip)) Q {tmps:=#[u0,.pointer (some ⟨w.heap.size,0,none⟩),.int .i64 0,.pointer (some ⟨B3,0,none⟩),.pointer (some ⟨B4,0,none⟩),.pointer (some ⟨B5,0,none⟩),u6,u7,u8,u9,u10,u11,u12,u13,u14,u15,u16,u17,u18,u19,u20,u21,u22,u23,u24,u25,u26,u27,u28,u29,u30,u31,u32,u33,u34,u35,u36,u37,u38,u39,u40,u41,u42,u43,u44,u45,u46,u47,u48,u49,u50,u51,u52,u53,u54,u55,u56,u57,u58,u59,u60,u61,u62,u63],defers:=[KG D,KG D1]} V:=by
 have J:w.heap.size < B4:=h1.lt _ (.inl rfl)
 have I:B3 < B4:=h2.lt _ (.inl rfl)
 have H:=hL.low
 have p:Hid (∀la lb wr,Fk V base B4 B5 la lb wr->∀b,b < B4->wr.heap[b]?=V.heap[b]?):=yb (fun la lb wr h b hb=>h.block b (by omega) (by omega) (by omega))
 have g:Hid (∀la lb wr,Fk V base B4 B5 la lb wr->wr.heap[D1]?=some (.deferred (some []))∧wr.heap[D]?=some (.deferred (some []))):=yb (fun la lb wr h=>by
  obtain ⟨va,vb,r4,r5,_⟩:=hL.rows
  exact ⟨h.keep D1 _ (fun e=>by rw[e,r4] at l;cases l) (fun e=>by rw[e,r5] at l;cases l) l (fun _ _ e=>by cases e),h.keep D _ (fun e=>by rw[e,r4] at m;cases m) (fun e=>by rw[e,r5] at m;cases m) m (fun _ _ e=>by cases e)⟩)
 have C:Hid (∀la lb wr,Fk V base B4 B5 la lb wr->Below w.heap.size w wr):=yb (fun la lb wr h=>hb.trans ⟨h.os,h.tape,h.output,h.size,fun b M=>h.block b (by omega) (by omega) (by omega)⟩)
 have hc:=h1.head
 have O:=yb h2.head
 have T:Hid (∀i (hi:i < x.reaches.length),∃b o,L1.reaches.a=some ⟨b,o,none⟩∧b < B4∧V.cell? ⟨b,o+i*51+1,none⟩=some (.string x.reaches[i].frm.name)∧V.cell? ⟨b,o+i*51+1+1,none⟩=some (.int .i64 x.reaches[i].frm.n)):=yb (fun i hi=>h1.frm hi)
 have N:Hid (∀i (hi:i < (Ab x).reaches.length),∃b o,L2.reaches.a=some ⟨b,o,none⟩∧b < B4∧V.cell? ⟨b,o+i*51+1,none⟩=some (.string (Ab x).reaches[i].frm.name)∧V.cell? ⟨b,o+i*51+1+1,none⟩=some (.int .i64 (Ab x).reaches[i].frm.n)):=yb (fun i hi=>h2.frm hi)
 have s:Hid (L1.reaches.n=x.reaches.length):=yb h1.src.reaches.1
 have K:Hid (L2.reaches.n=x.reaches.length):=yb (h2.src.reaches.1.trans (Is x))
 have G:L1.reaches.n<=140737488355328:=by rw[s.o];exact h1.src.reaches.2.1
 have R:=yb hc
 have HQ:=yb hQ
 have c:Hid (w.heap.size < B4∧B3 < B4∧B4 < B5∧B5 < base∧base<=V.heap.size):=yb ⟨J,I,ag,h5,H⟩
 have X:=yb hD
 have F:=yb E;have q:=yb u
 have HC:Hid (FC x=if DH x=DH (Ab x) then 0 else 170):=yb (by unfold FC;rw[yw hw])
 have ad:Hid (Fk V base B4 B5 (Bl x++(x.reaches.map fun d:At=>d.frm).take 0) (Bl (Ab x)++((Ab x).reaches.map fun d:At=>d.frm).take 0) V):=yb (by rw[zM,zM,zt,zt];exact hL)
 generalize L1.reaches=ar at hc T s G R
 obtain ⟨ra,rn,rc⟩:=ar
 generalize L2.reaches=ai at O N K
 obtain ⟨U,a7,ah⟩:=ai
 simp only at hc T s G R O N K
 clear hQ hw h1 h2 ag h5 hb hL hD l m E u J I H
 unfold KG
 refine Ah (A7 ?_)
 go_wp2
 clear hc
 go_loopw [38] (fun iv wr=>∃i:Nat,iv=.int .i64 i∧i<=rn∧Hid (Fk V base B4 B5 (Bl x++(x.reaches.map fun d:At=>d.frm).take i) (Bl (Ab x)++((Ab x).reaches.map fun d:At=>d.frm).take i) wr)) (fun iv _=>rn - (intOf iv).toNat)
 case atStart=>exact ⟨0,rfl,yC _,ad⟩
 case round=>
  clear ad
  obtain ⟨i,rfl,hi,A⟩:=hrel
  by_cases M:i < rn
  ·have ak:(i:Int) < (rn:Int):=by omega
   have y:i < x.reaches.length:=by rw[<-s.o];exact M
   have P:i < (Ab x).reaches.length:=by rw[Is];exact y
   obtain ⟨b1,o1,rfl,g1,x1,y1⟩:=T.o i y
   obtain ⟨b2,o2,rfl,g2,x2,y2⟩:=N.o i P
   have ae:(x.reaches.map fun d:At=>d.frm)[i]?=some x.reaches[i].frm:=by simp[y]
   have ac:((Ab x).reaches.map fun d:At=>d.frm)[i]?=some (Ab x).reaches[i].frm:=by simp[P]
   have j:Hid (∀wr,Fk V base B4 B5 ((Bl x++(x.reaches.map fun d:At=>d.frm).take i)++[x.reaches[i].frm]) ((Bl (Ab x)++((Ab x).reaches.map fun d:At=>d.frm).take i)++[(Ab x).reaches[i].frm]) wr->Fk V base B4 B5 (Bl x++(x.reaches.map fun d:At=>d.frm).take (i+1)) (Bl (Ab x)++((Ab x).reaches.map fun d:At=>d.frm).take (i+1)) wr):=yb (fun wr h=>by
    rw[yp,yp] at h
    rw[IS ae,IS ac] at h
    exact h)
   have au:Hid ((Bl x++(x.reaches.map fun d:At=>d.frm).take i).length+1<=1000000000):=yb (by
    have:=F.o
    unfold DH at this
    simp only[yq,yP,yN] at this ⊢
    omega)
   have ap:Hid ((Bl (Ab x)++((Ab x).reaches.map fun d:At=>d.frm).take i).length+1<=1000000000):=yb (by
    have:=q.o
    unfold DH at this
    simp only[yq,yP,yN] at this ⊢
    omega)
   generalize x.reaches[i].frm=r1 at x1 y1 j
   generalize (Ab x).reaches[i].frm=r2 at x2 y2 j
   obtain ⟨va,vb,q4,q5,W⟩:=A.o.rows
   have HT:=yb W;have a0:=yb q4;have a6:=yb q5
   have av:Hid (wr.cell? ⟨b1,o1+i*51+1,none⟩=some (.string r1.name)):=yb ((Ag (p.o _ _ _ A.o b1 g1)).trans x1)
   have ao:Hid (wr.cell? ⟨b1,o1+i*51+1+1,none⟩=some (.int .i64 r1.n)):=yb ((Ag (p.o _ _ _ A.o b1 g1)).trans y1)
   have an:Hid (wr.cell? ⟨b2,o2+i*51+1,none⟩=some (.string r2.name)):=yb ((Ag (p.o _ _ _ A.o b2 g2)).trans x2)
   have aq:Hid (wr.cell? ⟨b2,o2+i*51+1+1,none⟩=some (.int .i64 r2.n)):=yb ((Ag (p.o _ _ _ A.o b2 g2)).trans y2)
   have HG:Hid (b1 < B4∧b2 < B4∧i < rn∧i < a7):=yb ⟨g1,g2,M,by rw[K.o];exact y⟩
   clear y P x1 y1 x2 y2 ae ac q4 q5 W g1 g2
   go_wp2_with fail
   refine Xe (base:=base) (B:=w.heap.size) (B3:=B3) (B4:=B4) (B5:=B5) (b1:=b1) (o1:=o1) (n1:=rn) (c1:=rc) (b2:=b2) (o2:=o2) (n2:=a7) (c2:=ah) (i:=i) (va:=va) (vb:=vb) (la:=Bl x++(x.reaches.map fun d:At=>d.frm).take i) (lb:=Bl (Ab x)++((Ab x).reaches.map fun d:At=>d.frm).take i) (r1:=r1) (r2:=r2) _ ?_ ?_ ?_ ?_ ?_ ?_ ?_ ?_ ?_ ?_ ?_ ?_ ?_ ?_ ?_ ?_ ?_ ?_ ?_ ?_ ?_ ?_ ?_ ?_ ?_ ?_ ?_ ?_ ?_ ?_
   ·rfl
   ·rfl
   ·rfl
   ·rfl
   ·rfl
   ·rfl
   ·rfl
   ·have:=c.o;omega
   ·have:=c.o;omega
   ·have:=c.o;omega
   ·have:=c.o;omega
   ·have:=c.o;have:=HG.o;omega
   ·have:=c.o;have:=HG.o;omega
   ·have:=c.o;omega
   ·exact HG.o.2.2.1
   ·exact HG.o.2.2.2
   ·exact ⟨_,a0.o⟩
   ·exact ⟨_,a6.o⟩
   ·simp[World.cell?,a0.o]
   ·simp[World.cell?,a6.o]
   ·exact (Ag (p.o _ _ _ A.o _ c.o.1)).trans R.o
   ·exact (Ag (p.o _ _ _ A.o _ c.o.2.1)).trans O.o
   ·exact av.o
   ·exact ao.o
   ·exact an.o
   ·exact aq.o
   ·exact HT.o
   ·exact au.o
   ·exact ap.o
   ·intro a w1 v1 v2 a8 Z af hp
    have aj:=yb (j.o _ (A.o.put (by have:=c.o;omega) c.o.2.2.2.1 (by have:=c.o;omega) hp))
    obtain ⟨v41,v42,v43,v44,v45,v46,v47,v48,v49,v50,v51,v52,v53,v54,v55,v56,v57,v58,rfl⟩:∃v41 v42 v43 v44 v45 v46 v47 v48 v49 v50 v51 v52 v53 v54 v55 v56 v57 v58:Value,a={tmps:=#[u0,.pointer (some ⟨w.heap.size,0,none⟩),.int .i64 0,.pointer (some ⟨B3,0,none⟩),.pointer (some ⟨B4,0,none⟩),.pointer (some ⟨B5,0,none⟩),u6,u7,.int .i64 i,u9,u10,u11,u12,u13,u14,u15,u16,u17,u18,u19,u20,u21,u22,u23,u24,u25,u26,u27,u28,u29,u30,u31,u32,u33,u34,.pointer (some ⟨w.heap.size,21,none⟩),.slice (some ⟨b1,o1,none⟩) rn rc,.int .i64 rn,.int .i64 i,.bool true,.int .i64 i,v41,v42,v43,v44,v45,v46,v47,v48,v49,v50,v51,v52,v53,v54,v55,v56,v57,v58,u59,u60,u61,u62,u63],defers:=[KG D,KG D1]}:=by
     refine ⟨a.tmps.getD 41 undef,a.tmps.getD 42 undef,a.tmps.getD 43 undef,a.tmps.getD 44 undef,a.tmps.getD 45 undef,a.tmps.getD 46 undef,a.tmps.getD 47 undef,a.tmps.getD 48 undef,a.tmps.getD 49 undef,a.tmps.getD 50 undef,a.tmps.getD 51 undef,a.tmps.getD 52 undef,a.tmps.getD 53 undef,a.tmps.getD 54 undef,a.tmps.getD 55 undef,a.tmps.getD 56 undef,a.tmps.getD 57 undef,a.tmps.getD 58 undef,(KX [41,42,43,44,45,46,47,48,49,50,51,52,53,54,55,56,57,58] (a8.trans rfl) Z (fun t ht=>af t ?_)).trans (by kernel_rfl)⟩
     simp at ht;omega
    clear a8 Z af hp
    unfold KG
    go_wp2
    exact ⟨⟨i+1,by push_cast;rfl,by omega,aj⟩,by simp[intOf];omega⟩
  ·obtain rfl:i=rn:=by omega
   have ak:decide ((i:Int) < (i:Int))=false:=by simp
   have f:Hid (Fk V base B4 B5 (DH x) (DH (Ab x)) wr):=yb (by
    have h:=A.o
    rw[s.o] at h
    have e1:(x.reaches.map fun d:At=>d.frm).take x.reaches.length=x.reaches.map fun d:At=>d.frm:=by
     rw[xV (by simp)]
    have e2:((Ab x).reaches.map fun d:At=>d.frm).take x.reaches.length=(Ab x).reaches.map fun d:At=>d.frm:=by
     rw[xV (by rw[yN,Is];exact yf _)]
    rw[e1,e2] at h
    exact h)
   obtain ⟨va,vb,q4,q5,W⟩:=f.o.rows
   obtain ⟨⟨a1,n1,k1⟩,ea,aa⟩:=W.a.rf (by have:=F.o;omega)
   obtain ⟨⟨a2,n2,k2⟩,eb,U⟩:=W.b.rf (by have:=q.o;omega)
   unfold Ai.v at ea eb
   simp only at ea eb
   subst ea eb
   have RA:=yb aa;have RB:=yb U
   have c4:wr.cell? ⟨B4,0,none⟩=some (.slice a1 n1 k1):=by simp[World.cell?,q4]
   have c5:wr.cell? ⟨B5,0,none⟩=some (.slice a2 n2 k2):=by simp[World.cell?,q5]
   clear q4 q5 W aa U A
   go_wp2
   by_cases Y:DH x=DH (Ab x)
   ·have S:Hid (decide (DH x=DH (Ab x))=true):=yb (decide_eq_true Y)
    have L:Hid (FC x=0):=yb (by rw[HC.o,yw Y])
    clear Y
    refine Ah (A7 ?_)
    go_wp2_with (first|(go_at_call 64;refine (M3 (h1:=⟨a1,n1,k1⟩) (h2:=⟨a2,n2,k2⟩) RA.o RB.o).mono ?_;rintro e w5 ⟨z,r⟩;rw[S.o] at z;subst z;have k:=yb r;clear r))
    refine A7 ?_
    go_wp2
    exact HQ.o.done 0 D1 D _ _ rfl ((C.o _ _ _ f.o).trans (k.o.mono (C.o _ _ _ f.o).size)) L.o X.o.1 X.o.2.1 X.o.2.2 ((k.o.block _ (ye.1 (g.o _ _ _ f.o).1).1).trans (g.o _ _ _ f.o).1) ((k.o.block _ (ye.1 (g.o _ _ _ f.o).2).1).trans (g.o _ _ _ f.o).2)
   ·have S:Hid (decide (DH x=DH (Ab x))=false):=yb (xR Y)
    have L:Hid (FC x=170):=yb (by rw[HC.o,yu Y])
    clear Y
    refine Ah (A7 ?_)
    go_wp2_with (first|(go_at_call 64;refine (M3 (h1:=⟨a1,n1,k1⟩) (h2:=⟨a2,n2,k2⟩) RA.o RB.o).mono ?_;rintro e w5 ⟨z,r⟩;rw[S.o] at z;subst z;have k:=yb r;clear r))
    exact HQ.o.done 170 D1 D _ _ rfl ((C.o _ _ _ f.o).trans (k.o.mono (C.o _ _ _ f.o).size)) L.o X.o.1 X.o.2.1 X.o.2.2 ((k.o.block _ (ye.1 (g.o _ _ _ f.o).1).1).trans (g.o _ _ _ f.o).1) ((k.o.block _ (ye.1 (g.o _ _ _ f.o).2).1).trans (g.o _ _ _ f.o).2)
end Go.Proofs.Ytghepahgkcigpaa
namespace Go.Proofs.Ytghepahgkcigpaa
open Go.RowKit
attribute [local go_sem] Oper.semAt_some
theorem D6.low{B b:Nat}{w:World}{v:Value}{l:List Rf}(h:D6 B w v l)(hb:b<=B):D6 b w v l:=by
 obtain ⟨h1,h2⟩:=h
 refine ⟨h1,h2.imp id ?_⟩
 rintro ⟨g,cap,a,e,h4,h5⟩
 exact ⟨g,cap,a,e,by omega,h5⟩
theorem DW.below{W0 V V':World}{Bx:Nat}{l:List Rf}{O:NP}(h:DW W0 Bx l O V)(hb:Below V.heap.size V V'):DW W0 Bx l O V':=by
 obtain ⟨v,r1,r2,d⟩:=h.row
 exact ⟨⟨hb.os.trans h.grown.os,hb.tape.trans h.grown.tape,hb.output.trans h.grown.output,yl h.grown.size hb.size,fun b a c=>(hb.block b (yr a h.grown.size)).trans (h.grown.block b a c)⟩,h.ownO,v,(hb.block _ (ye.1 r1).1).trans r1,r2.up (fun g _ a=>hb.block g a),d⟩
theorem Xh{Q:QT}{w V:World}{x:Am}{L1 L2:Bw}{d6 d7:LV}{N1 N2:NP}{base B3 B4 B5 D1:Nat}(hQ:Rx Q w x)(hw:Ay x=0)
 (h1:Dr V w.heap.size B4 x L1 d6 N1)(h2:Dr V B3 B4 (Ab x) L2 d7 N2)(R:B4 < B5)(h5:B5 < base)(hb:Below w.heap.size w V)(G:base<=V.heap.size)
 (b8:∃va,V.heap[B4]?=some (.cells #[va] 127 (0,0))∧D6 base V va (Bl x))(y:V.heap[B5]?=some (.cells #[.slice none 0 0] 127 (0,0)))
 (P:w.heap.size<=D1)(m:V.heap[D1]?=some (.deferred (some [])))(p:(DH x).length<=900000000)(i:(DH (Ab x)).length<=900000000)
 (u0 u6 u7 u8 u9 u10 u11 cn bp u14 u15 u16 be cg cd aj bt cm cq ba b9 cy d5 bo bd cf ah ao ag ci af c8 bw bq ay bz ad bb b4 bi am ae c5 bh az co ca cp ce av bj bu aw bn bv al cj c9 cc:Value):
  Hb 14 Try.prog (CJ 5 (Try.f14.body.getD .skip)) Q {tmps:=#[u0,.pointer (some ⟨w.heap.size,0,none⟩),.int .i64 0,.pointer (some ⟨B3,0,none⟩),.pointer (some ⟨B4,0,none⟩),.pointer (some ⟨B5,0,none⟩),u6,u7,u8,u9,u10,u11,cn,bp,u14,u15,u16,be,cg,cd,aj,bt,cm,cq,ba,b9,cy,d5,bo,bd,cf,ah,ao,ag,ci,af,c8,bw,bq,ay,bz,ad,bb,b4,bi,am,ae,c5,bh,az,co,ca,cp,ce,av,bj,bu,aw,bn,bv,al,cj,c9,cc],defers:=[KG D1]} V:=by
 obtain ⟨x0,A⟩:∃x0:Am,x0=Ab x:=⟨_,rfl⟩
 obtain ⟨L,cs,NN,W⟩:∃L cs NN,Dr V B3 B4 x0 L cs NN:=by rw[A];exact ⟨_,_,_,h2⟩
 have X:B9 x0=true:=by rw[A];exact Rw (F1 hw).1
 have ar:CV (Tb.of x) x0=true:=by rw[A];exact Ng (F1 hw).2.2.2.2
 have ct:(Bl x0).length<=900000000:=by
  rw[A];have:=i;unfold DH at this;rw[yq] at this;omega
 have ap:B3 < B4:=W.lt _ (.inl rfl)
 obtain ⟨W5,J⟩:∃W5,W5=(V.alloc (.cells #[pV B3 0] 52)):=⟨_,rfl⟩
 have j:Below V.heap.size V W5:=by rw[J];exact (yg _ _).alloc (yf _) _
 have a2:W5.heap.size=V.heap.size+1:=by rw[J];simp
 have M:Dr W5 B3 B4 x0 L cs NN:=W.up (fun b hb=>j.block b (by omega))
 have aq:W5.cell? (aV V.heap.size 0)=some (pV L.s 0):=by
  rw[W.at0,J]
  have h:=World.alloc_heap_new V (.cells #[pV B3 0] 52)
  simp only[World.cell?,h]
  rfl
 have a8:W5.rangeAt L.s 0 cs:=by rw[W.at0];exact M.range
 have hU:=Pf M.src a8 aq X
 obtain ⟨hR,hM⟩:=Nf M.src a8
 have a0:(Cp W5 L x0).2=true:=((GU (Tb.of x) hU).2 ar).1
 have a7:=hM a0
 have bg:(Cp W5 L x0).1.length=(Bl x0).length:=by rw[<-a7,yN]
 have an:∀k O U,DW W5 B5 ((Bl x0).take k) O U->∀b,(VV NN L.s b∨b=V.heap.size)->U.heap[b]?=W5.heap[b]?:=fun k O U h b hb=>by
  rcases hb with hb|rfl
  ·rw[W.at0] at hb
   have:=W.lt b hb
   exact h.same (by omega) (by omega)
  ·exact h.same (by omega) (by omega)
 have HU:=yb hU;have HR:=yb hR;have HM:=yb a7;have d2:=yb bg;have ai:=yb an;have de:=yb a0;have c6:=yb a2;have d1:=yb j
 have HP:=yb W;have d3:=yb ct
 have cl:Hid (B5 < V.heap.size∧∃u:Value,W5.heap[B5]?=some (.cells #[u] 127 (0,0))):=yb ⟨by omega,by
  rw[j.block _ (by omega)];exact ⟨_,y⟩⟩
 have q:Hid (B5 < W5.heap.size):=yb (by omega)
 have dc:Hid (DW W5 B5 ((Bl x0).take 0) (fun _=>False) W5):=yb (by
  rw[zM]
  exact DW.start W5 (by rw[j.block _ (by omega)];exact y))
 have cv:=yb J;have dd:=yb A;have da:=yb ap
 have T:=yb (And.intro hQ (And.intro hw (And.intro h1 (And.intro h2 (And.intro R (And.intro h5 (And.intro hb G)))))))
 have ac:=yb (And.intro b8 (And.intro y (And.intro P m)))
 have Z:=yb (And.intro p i)
 clear J hQ hw h1 h2 R h5 hb G X ar ct ap j a2 M aq a8 hU hR hM a7 a0 bg an W A p i b8 y P m
 unfold KG
 refine Ah (Ah (A7 ?_))
 go_wp2_with (first|(go_at_call 51;refine (LL _ _).mono ?_;rintro e w2 ⟨rfl,rfl⟩))
 rw[<-cv.o]
 refine EP ?_
 refine Ei (n:=10) Try.func14 rfl (fun _ _=>rfl) (Lt 9 (by omega) HU.o) (fun a ha=>by
   obtain ⟨u,_,rfl⟩:=zy.1 ha
   rfl)
  (fun k O U=>DW W5 B5 ((Bl x0).take k) O U) (fun _ _ _=>False) (fun _ _ _=>False)
  (fun k a O U=>DW W5 B5 ((Bl x0).take k) O U∧∃(ub uo:Nat) (d c:Int) (f:ByteArray) (C:Int) (g:Nat),(Cp W5 L x0).1[k]?=some ⟨ub,uo,d,c,f,C⟩∧¬ O g∧g < U.heap.size∧U.heap[g]?=some (.cells #[pV ub uo,iV d,iV c] 106 (0,0))∧a={tmps:=#[u0,pV w.heap.size 0,iV 0,pV B3 0,pV B4 0,pV B5 0,u6,pV g 0,u8,u9,u10,u11,cn,bp,u14,u15,u16,be,cg,cd,aj,bt,cm,cq,ba,b9,.func (.func 81) #[] #[pV V.heap.size 0],.agg #[pV ub uo,iV d,iV c],bo,bd,cf,ah,ao,ag,ci,af,c8,bw,bq,ay,bz,ad,bb,b4,bi,am,ae,c5,bh,az,co,ca,cp,ce,av,bj,bu,aw,bn,bv,al,cj,c9,cc],defers:=[]})
  (DW.stays (W0:=W5) q.o (fun k=>(Bl x0).take k)) (fun _ _ _ _ _ _ h=>h.elim) (fun _ _ _ _ _ _ h=>h.elim) ?_ (fun k O U h=>Pd (ai.o k O U h)) (fun _ _ _ h=>h.elim) ?_ dc.o ?_ ?_ ?_ (fun _ _ _ _ _ _ h=>h.elim) (fun _ _ _ _ _ _ h=>h.elim)
 ·rintro a k O U O' U' ⟨h1,ub,uo,d,c,f,C,g,h2,h3,h4,h5,h6⟩ hz ho ht hu hk hO
  exact ⟨DW.stays (W0:=W5) q.o (fun k=>(Bl x0).take k) k O U O' U' h1 hz ho ht hu hk hO,ub,uo,d,c,f,C,g,h2,fun h=>(hO g h).elim h3 (fun h=>by omega),by omega,(hk g h3 h4).trans h5,h6⟩
 ·intro ch he O U I
  rw[de.o] at he
  cases he
 ·intro k hk O U lo I hO hl H
  have ck:k < (Cp W5 L x0).1.length:=by rw[yN] at hk;exact hk
  rw[zF]
  have N:=yb (yk ck)
  generalize (Cp W5 L x0).1[k]=u at N ⊢
  obtain ⟨ub,uo,d,c,f,C⟩:=u
  have HJ:=yb I;have S:=yb H
  clear I hO hl H hk ck
  unfold Us.v
  simp only
  gi_wp2
  have Y:BL O U (U.alloc (.cells #[pV ub uo,iV d,iV c] 106)):=⟨by simp,fun b hb=>yF _ _ _ (S.o b hb)⟩
  have F:DW W5 B5 ((Bl x0).take k) O (U.alloc (.cells #[pV ub uo,iV d,iV c] 106)):=HJ.o.below ((yg U.heap.size U).alloc (yf _) _)
  have K:¬ O U.heap.size:=fun h=>xE _ (S.o _ h)
  first
  |exact ⟨Y,F,ub,uo,d,c,f,C,U.heap.size,N.o,K,by simp,World.alloc_heap_new _ _,rfl⟩
  |(rename_i hK;exact hK _ _ ⟨Y,F,ub,uo,d,c,f,C,U.heap.size,N.o,K,by simp,World.alloc_heap_new _ _,rfl⟩)
  |(rename_i hK _;exact hK _ _ ⟨Y,F,ub,uo,d,c,f,C,U.heap.size,N.o,K,by simp,World.alloc_heap_new _ _,rfl⟩)
  |fail
 ·rintro k hk O U lo a1 hl b5 H ⟨I,ub,uo,d,c,f,C,g,hu,cu,c7,bm,rfl⟩
  have l:=HR.o _ (xw hu)
  have aa:=ai.o k O U I ub (.inl l.inS)
  have ax:(Bl x0)[k]?=some (⟨f,C⟩:Rf):=by
   rw[<-HM.o,List.getElem?_map,hu];rfl
  obtain ⟨va,r1,r2,r3⟩:=I.row
  have HJ:=yb I
  have cw:Hid (∀U',DW W5 B5 ((Bl x0).take k++[⟨f,C⟩]) O U'->DW W5 B5 ((Bl x0).take (k+1)) O U'):=yb (fun U' h=>by rw[IS ax] at h;exact h)
  have cx:Hid (((Bl x0).take k).length+1<=1000000000):=yb (by
   have:=d3.o
   rw[yP];omega)
  have au:Hid (U.cell? (aV B5 0)=some va):=yb (by simp[World.cell?,r1])
  have cr:Hid (∃u,U.heap[B5]?=some (.cells #[u] 127 (0,0))):=yb ⟨_,r1⟩
  have ak:=yb r2
  have c3:Hid (U.cell? (aV g 0)=some (pV ub uo)):=yb (by simp[World.cell?,bm])
  have d4:Hid (U.cell? (aV ub uo)=some (.string f)):=yb ((Ag aa).trans l.name)
  have d9:Hid (U.cell? (aV ub (uo+1))=some (iV C)):=yb ((Ag aa).trans l.n)
  have E:Hid (B5 < W5.heap.size∧W5.heap.size<=U.heap.size∧g < U.heap.size∧ub < W5.heap.size):=yb ⟨q.o,I.grown.size,c7,by
   have h1:=l.inS
   rw[HP.o.at0] at h1
   have:=HP.o.lt ub h1
   have:=cl.o.1
   have:=c6.o
   have:=T.o.2.2.2.2.1
   simp only at*
   omega⟩
  have S:=yb H
  clear l aa ax r1 r2 r3 I hu cu c7 bm hl b5 hk H
  gi_wp2_with fail
  refine Xc (W0:=U) (Bx:=B5) (b6:=g) (ub:=ub) (uo:=uo) (base:=W5.heap.size) (va:=va) (ls:=(Bl x0).take k) (r:=⟨f,C⟩) _ ?_ ?_ ?_ ?_ ?_ ?_ ?_ ?_ ?_ ?_ ?_ ?_ ?_ ?_ ?_ ?_ ?_
  ·rfl
  ·rfl
  ·rfl
  ·rfl
  ·have:=E.o;omega
  ·have:=E.o;omega
  ·have:=E.o;omega
  ·exact cr.o
  ·exact au.o
  ·exact c3.o
  ·exact d4.o
  ·exact d9.o
  ·exact ak.o
  ·exact cx.o
  ·exact E.o.2.1
  ·exact E.o.1
  ·intro a w1 v _ _ _ hp
   have h:=HJ.o.put q.o S.o au.o hp
   exact ⟨h.2,cw.o _ h.1⟩
 ·intro _ D O U hD di I d0
  obtain ⟨hQ,hw,h1,h2,R,h5,hb,G⟩:=T.o
  obtain ⟨p,i⟩:=Z.o
  have a2:=c6.o
  have j:=d1.o
  have dg:=da.o
  have dh:=cl.o.1
  have z:DW W5 B5 (Bl (Ab x)) O U:=by
   have h:=I
   rw[yN,d2.o,yx,dd.o] at h
   exact h
  obtain ⟨v2,q1,q2,q3⟩:=z.row
  have B:∀b,b < V.heap.size->b≠B5->U.heap[b]?=V.heap[b]?:=fun b t a6=>(z.same (by omega) a6).trans (j.block b t)
  have df:=z.grown.size
  have db:Below w.heap.size w U:=hb.trans ⟨z.grown.os.trans j.os,z.grown.tape.trans j.tape,z.grown.output.trans j.output,by omega,fun b t=>B b (by have:=hb.size;omega) (by have:=h1.lt _ (.inl rfl);omega)⟩
  have d8:=h1.up (fun b t=>B b (by omega) (by omega))
  have cz:=h2.up (fun b t=>B b (by omega) (by omega))
  obtain ⟨⟨va,p1,p2⟩,y,P,m⟩:=ac.o
  have a6:D1≠B5:=fun e=>by rw[e,y] at m;cases m
  have b3:=(ye.1 m).1
  have hL:Fk U base B4 B5 (Bl x) (Bl (Ab x)) U:=⟨rfl,rfl,rfl,yf _,by omega,fun _ _ _ _ h _=>h,fun _ _ _ _=>rfl,va,v2,(B B4 (by omega) (by omega)).trans p1,q1,yg _ _,by omega,p2.up (fun g hg t=>B g t (by have:=(p2.lt hg).1;omega)),q2.low (by omega),fun g e1 e2=>by have:=(p2.lt e1).2;have:=(q2.lt e2).1;omega,fun _ _ h _=>h⟩
  exact Xg (base:=base) hQ hw d8 cz R h5 db hL ⟨by omega,P,by have:=hb.size;omega⟩ ((B D1 b3 a6).trans m) d0 p i _ _ _ _ _ _ _ _ _ _ _ _ _ _ _ _ _ _ _ _ _ _ _ _ _ _ _ _ _ _ _ _ _ _ _ _ _ _ _ _ _ _ _ _ _ _ _ _ _ _ _ _ _ _ _ _ _ _ _
theorem Xi{Q:QT}{w V:World}{x:Am}{L1 L2:Bw}{d3 d4:LV}{N1 N2:NP}{base B3 B4 B5:Nat}(hQ:Rx Q w x)(hw:Ay x=0)
 (h1:Dr V w.heap.size B4 x L1 d3 N1)(h2:Dr V B3 B4 (Ab x) L2 d4 N2)(P:B4 < B5)(h5:B5 < base)(hb:Below w.heap.size w V)(C:base<=V.heap.size)
 (b4:∃u:Value,V.heap[B4]?=some (.cells #[u] 127 (0,0)))(p:V.heap[B4]?=some (.cells #[.slice none 0 0] 127 (0,0)))(J:V.heap[B5]?=some (.cells #[.slice none 0 0] 127 (0,0)))
 (m:(DH x).length<=900000000)(j:(DH (Ab x)).length<=900000000)
 (u0 u6 u7 u8 u9 u10 u11 ck bm u14 u15 u16 cw d8 ca ah bo cj cn b8 b5 ao bp bj ba cd af am ae ce ad c6 bu bn ax bv aa b9 az be ak ac bz bd ay cl c8 cm cc au bg bq av bi bt aj cf c7 c9:Value):
  Hb 14 Try.prog (CJ 4 (Try.f14.body.getD .skip)) Q {tmps:=#[u0,.pointer (some ⟨w.heap.size,0,none⟩),.int .i64 0,.pointer (some ⟨B3,0,none⟩),.pointer (some ⟨B4,0,none⟩),.pointer (some ⟨B5,0,none⟩),u6,u7,u8,u9,u10,u11,ck,bm,u14,u15,u16,cw,d8,ca,ah,bo,cj,cn,b8,b5,ao,bp,bj,ba,cd,af,am,ae,ce,ad,c6,bu,bn,ax,bv,aa,b9,az,be,ak,ac,bz,bd,ay,cl,c8,cm,cc,au,bg,bq,av,bi,bt,aj,cf,c7,c9],defers:=[]} V:=by
 obtain ⟨x0,y⟩:∃x0:Am,x0=x:=⟨_,rfl⟩
 obtain ⟨L,cs,NN,T⟩:∃L cs NN,Dr V w.heap.size B4 x0 L cs NN:=by rw[y];exact ⟨_,_,_,h1⟩
 have W:B9 x0=true:=by rw[y];exact (F1 hw).1
 have aq:CV (Tb.of x) x0=true:=by rw[y];exact (F1 hw).2.2.2.2
 have cp:(Bl x0).length<=900000000:=by
  rw[y];have:=m;unfold DH at this;rw[yq] at this;omega
 have an:w.heap.size < B4:=T.lt _ (.inl rfl)
 obtain ⟨W5,G⟩:∃W5,W5=(V.alloc (.cells #[pV w.heap.size 0] 52)):=⟨_,rfl⟩
 have i:Below V.heap.size V W5:=by rw[G];exact (yg _ _).alloc (yf _) _
 have a0:W5.heap.size=V.heap.size+1:=by rw[G];simp
 have K:Dr W5 w.heap.size B4 x0 L cs NN:=T.up (fun b hb=>i.block b (by omega))
 have ap:W5.cell? (aV V.heap.size 0)=some (pV L.s 0):=by
  rw[T.at0,G]
  have h:=World.alloc_heap_new V (.cells #[pV w.heap.size 0] 52)
  simp only[World.cell?,h]
  rfl
 have a6:W5.rangeAt L.s 0 cs:=by rw[T.at0];exact K.range
 have hU:=Pf K.src a6 ap W
 obtain ⟨hR,hM⟩:=Nf K.src a6
 have Z:(Cp W5 L x0).2=true:=((GU (Tb.of x) hU).2 aq).1
 have a2:=hM Z
 have bb:(Cp W5 L x0).1.length=(Bl x0).length:=by rw[<-a2,yN]
 have al:∀k O U,DW W5 B4 ((Bl x0).take k) O U->∀b,(VV NN L.s b∨b=V.heap.size)->U.heap[b]?=W5.heap[b]?:=fun k O U h b hb=>by
  rcases hb with hb|rfl
  ·rw[T.at0] at hb
   have:=T.lt b hb
   exact h.same (by omega) (by omega)
  ·exact h.same (by omega) (by omega)
 have HU:=yb hU;have HR:=yb hR;have HM:=yb a2;have cz:=yb bb;have ag:=yb al;have dc:=yb Z;have c3:=yb a0;have cy:=yb i
 have HP:=yb T;have d0:=yb cp
 have ci:Hid (B4 < V.heap.size∧∃u:Value,W5.heap[B4]?=some (.cells #[u] 127 (0,0))):=yb ⟨by omega,by
  rw[i.block _ (by omega)];exact b4⟩
 have q:Hid (B4 < W5.heap.size):=yb (by omega)
 have da:Hid (DW W5 B4 ((Bl x0).take 0) (fun _=>False) W5):=yb (by
  rw[zM]
  exact DW.start W5 (by rw[i.block _ (by omega)];exact p))
 have cr:=yb G;have db:=yb y;have d7:=yb an
 have S:=yb (And.intro hQ (And.intro hw (And.intro h1 (And.intro h2 (And.intro P (And.intro h5 (And.intro hb C)))))))
 have a8:=yb (And.intro p J)
 have Y:=yb (And.intro m j)
 clear G hQ hw h1 h2 P h5 hb C W aq cp an i a0 K ap a6 hU hR hM a2 Z bb al T y m j b4 p J
 refine Ah (Ah (A7 ?_))
 go_wp2_with (first|(go_at_call 51;refine (LL _ _).mono ?_;rintro e w2 ⟨rfl,rfl⟩))
 rw[<-cr.o]
 refine EP ?_
 refine Ei (n:=10) Try.func14 rfl (fun _ _=>rfl) (Lt 9 (by omega) HU.o) (fun a ha=>by
   obtain ⟨u,_,rfl⟩:=zy.1 ha
   rfl)
  (fun k O U=>DW W5 B4 ((Bl x0).take k) O U) (fun _ _ _=>False) (fun _ _ _=>False)
  (fun k a O U=>DW W5 B4 ((Bl x0).take k) O U∧∃(ub uo:Nat) (d c:Int) (f:ByteArray) (z:Int) (g:Nat),(Cp W5 L x0).1[k]?=some ⟨ub,uo,d,c,f,z⟩∧¬ O g∧g < U.heap.size∧U.heap[g]?=some (.cells #[pV ub uo,iV d,iV c] 106 (0,0))∧a={tmps:=#[u0,pV w.heap.size 0,iV 0,pV B3 0,pV B4 0,pV B5 0,pV g 0,u7,u8,u9,u10,u11,ck,bm,u14,u15,u16,.func (.func 81) #[] #[pV V.heap.size 0],.agg #[pV ub uo,iV d,iV c],ca,ah,bo,cj,cn,b8,b5,ao,bp,bj,ba,cd,af,am,ae,ce,ad,c6,bu,bn,ax,bv,aa,b9,az,be,ak,ac,bz,bd,ay,cl,c8,cm,cc,au,bg,bq,av,bi,bt,aj,cf,c7,c9],defers:=[]})
  (DW.stays (W0:=W5) q.o (fun k=>(Bl x0).take k)) (fun _ _ _ _ _ _ h=>h.elim) (fun _ _ _ _ _ _ h=>h.elim) ?_ (fun k O U h=>Pd (ag.o k O U h)) (fun _ _ _ h=>h.elim) ?_ da.o ?_ ?_ ?_ (fun _ _ _ _ _ _ h=>h.elim) (fun _ _ _ _ _ _ h=>h.elim)
 ·rintro a k O U O' U' ⟨h1,ub,uo,d,c,f,z,g,h2,h3,h4,h5,h6⟩ hz ho ht hu hk hO
  exact ⟨DW.stays (W0:=W5) q.o (fun k=>(Bl x0).take k) k O U O' U' h1 hz ho ht hu hk hO,ub,uo,d,c,f,z,g,h2,fun h=>(hO g h).elim h3 (fun h=>by omega),by omega,(hk g h3 h4).trans h5,h6⟩
 ·intro ch he O U F
  rw[dc.o] at he
  cases he
 ·intro k hk O U lo F hO hl E
  have cg:k < (Cp W5 L x0).1.length:=by rw[yN] at hk;exact hk
  rw[zF]
  have M:=yb (yk cg)
  generalize (Cp W5 L x0).1[k]=u at M ⊢
  obtain ⟨ub,uo,d,c,f,z⟩:=u
  have HJ:=yb F;have R:=yb E
  clear F hO hl E hk cg
  unfold Us.v
  simp only
  gi_wp2
  have X:BL O U (U.alloc (.cells #[pV ub uo,iV d,iV c] 106)):=⟨by simp,fun b hb=>yF _ _ _ (R.o b hb)⟩
  have B:DW W5 B4 ((Bl x0).take k) O (U.alloc (.cells #[pV ub uo,iV d,iV c] 106)):=HJ.o.below ((yg U.heap.size U).alloc (yf _) _)
  have H:¬ O U.heap.size:=fun h=>xE _ (R.o _ h)
  first
  |exact ⟨X,B,ub,uo,d,c,f,z,U.heap.size,M.o,H,by simp,World.alloc_heap_new _ _,rfl⟩
  |(rename_i hK;exact hK _ _ ⟨X,B,ub,uo,d,c,f,z,U.heap.size,M.o,H,by simp,World.alloc_heap_new _ _,rfl⟩)
  |(rename_i hK _;exact hK _ _ ⟨X,B,ub,uo,d,c,f,z,U.heap.size,M.o,H,by simp,World.alloc_heap_new _ _,rfl⟩)
  |fail
 ·rintro k hk O U lo a1 hl b3 E ⟨F,ub,uo,d,c,f,z,g,hu,cq,c5,bh,rfl⟩
  have l:=HR.o _ (xw hu)
  have a7:=ag.o k O U F ub (.inl l.inS)
  have aw:(Bl x0)[k]?=some (⟨f,z⟩:Rf):=by
   rw[<-HM.o,List.getElem?_map,hu];rfl
  obtain ⟨va,r1,r2,r3⟩:=F.row
  have HJ:=yb F
  have ct:Hid (∀U',DW W5 B4 ((Bl x0).take k++[⟨f,z⟩]) O U'->DW W5 B4 ((Bl x0).take (k+1)) O U'):=yb (fun U' h=>by rw[IS aw] at h;exact h)
  have cu:Hid (((Bl x0).take k).length+1<=1000000000):=yb (by
   have:=d0.o
   rw[yP];omega)
  have ar:Hid (U.cell? (aV B4 0)=some va):=yb (by simp[World.cell?,r1])
  have co:Hid (∃u,U.heap[B4]?=some (.cells #[u] 127 (0,0))):=yb ⟨_,r1⟩
  have ai:=yb r2
  have bw:Hid (U.cell? (aV g 0)=some (pV ub uo)):=yb (by simp[World.cell?,bh])
  have d2:Hid (U.cell? (aV ub uo)=some (.string f)):=yb ((Ag a7).trans l.name)
  have d6:Hid (U.cell? (aV ub (uo+1))=some (iV z)):=yb ((Ag a7).trans l.n)
  have A:Hid (B4 < W5.heap.size∧W5.heap.size<=U.heap.size∧g < U.heap.size∧ub < W5.heap.size):=yb ⟨q.o,F.grown.size,c5,by
   have h1:=l.inS
   rw[HP.o.at0] at h1
   have:=HP.o.lt ub h1
   have:=ci.o.1
   have:=c3.o
   have:=S.o.2.2.2.2.1
   simp only at*
   omega⟩
  have R:=yb E
  clear l a7 aw r1 r2 r3 F hu cq c5 bh hl b3 hk E
  gi_wp2_with fail
  refine XB (W0:=U) (Bx:=B4) (b6:=g) (ub:=ub) (uo:=uo) (base:=W5.heap.size) (va:=va) (ls:=(Bl x0).take k) (r:=⟨f,z⟩) _ ?_ ?_ ?_ ?_ ?_ ?_ ?_ ?_ ?_ ?_ ?_ ?_ ?_ ?_ ?_ ?_ ?_
  ·rfl
  ·rfl
  ·rfl
  ·rfl
  ·have:=A.o;omega
  ·have:=A.o;omega
  ·have:=A.o;omega
  ·exact co.o
  ·exact ar.o
  ·exact bw.o
  ·exact d2.o
  ·exact d6.o
  ·exact ai.o
  ·exact cu.o
  ·exact A.o.2.1
  ·exact A.o.1
  ·intro a w1 v _ _ _ hp
   have h:=HJ.o.put q.o R.o ar.o hp
   exact ⟨h.2,ct.o _ h.1⟩
 ·intro _ D O U hD dg F cx
  obtain ⟨hQ,hw,h1,h2,P,h5,hb,C⟩:=S.o
  obtain ⟨m,j⟩:=Y.o
  have a0:=c3.o
  have i:=cy.o
  have de:=d7.o
  have df:=ci.o.1
  have t:DW W5 B4 (Bl (x)) O U:=by
   have h:=F
   rw[yN,cz.o,yx,db.o] at h
   exact h
  obtain ⟨v2,q1,q2,q3⟩:=t.row
  have N:∀b,b < V.heap.size->b≠B4->U.heap[b]?=V.heap[b]?:=fun b I d1=>(t.same (by omega) d1).trans (i.block b I)
  have dd:=t.grown.size
  have d9:Below w.heap.size w U:=hb.trans ⟨t.grown.os.trans i.os,t.grown.tape.trans i.tape,t.grown.output.trans i.output,by omega,fun b I=>N b (by have:=hb.size;omega) (by have:=h1.lt _ (.inl rfl);omega)⟩
  have d5:=h1.up (fun b I=>N b (by omega) (by omega))
  have cv:=h2.up (fun b I=>N b (by omega) (by omega))
  obtain ⟨p,J⟩:=a8.o
  exact Xh (base:=base) (D1:=D) hQ hw d5 cv P h5 d9 (by omega) ⟨v2,q1,q2.low (by omega)⟩ ((N B5 (by omega) (by omega)).trans J) (by have:=hb.size;omega) cx m j _ _ _ _ _ _ _ _ _ _ _ _ _ _ _ _ _ _ _ _ _ _ _ _ _ _ _ _ _ _ _ _ _ _ _ _ _ _ _ _ _ _ _ _ _ _ _ _ _ _ _ _ _ _ _ _ _ _ _
end Go.Proofs.Ytghepahgkcigpaa
namespace Go.Proofs.Ytghepahgkcigpaa
open Go.RowKit
theorem AK{α β:Type}{f:α->List β}{c:Nat}:∀ {l:List α},(∀a∈l,(f a).length<=c)->(l.flatMap f).length<=l.length*c
 |[],_=>by simp
 |a::l,h=>by
  rw[zv,yq,yI,Nat.succ_mul]
  have:=h a (by simp)
  have:=AK (l:=l) (fun b hb=>h b (by simp[hb]))
  omega
theorem Fl{α β:Type}{f:α × Nat->List β}{c:Nat}{l:List α}(h:∀a∈l,∀i,(f (a,i)).length<=c):(l.zipIdx.flatMap f).length<=l.length*c:=by
 have:=AK (l:=l.zipIdx) (f:=f) (c:=c) (fun p b=>by
  obtain ⟨a,i⟩:=p
  obtain ⟨_,h2,h3⟩:=List.mem_zipIdx (x:=a) (i:=i) b
  exact h a (h3▸yz _) i)
 rwa [zE] at this
section
variable{t:Tb}
mutual
theorem Pm(lt:Int):∀e:Ex,T6 t lt e=true->(Na e).length+1<=2 ^ (AJ e+1)
 |.mk op n u rn ri args,h=>by
  rw[T6,yv,yv] at h
  obtain ⟨h1,_,h3⟩:=h
  have ih:=Nh lt args h3
  rw[Na,AJ,yI]
  unfold ND at h1
  simp only[yv,yW] at h1
  obtain ⟨_,_,h2⟩:=h1
  rw[Nat.pow_succ]
  split at h2
  ·have h2:args.length=2:=yy h2
   rw[h2] at ih;omega
  ·have h2:args.length=0:=yy h2
   obtain rfl:=ze.1 h2
   simp[Im,Bq]
theorem Nh(lt:Int):∀l:List Ex,Re t lt l=true->(Im l).length+l.length<=l.length*2 ^ Bq l
 |[],_=>by simp[Im]
 |e::r,h=>by
  rw[Re,yv] at h
  have a:=Pm lt e h.1
  have b:=Nh lt r h.2
  rw[Im,Bq,yq,yI]
  have e1:2 ^ (AJ e+1)<=2 ^ max (1+AJ e) (Bq r):=Nat.pow_le_pow_right (by omega) (by omega)
  have e2:r.length*2 ^ Bq r<=r.length*2 ^ max (1+AJ e) (Bq r):=Nat.mul_le_mul_left _ (Nat.pow_le_pow_right (by omega) (by omega))
  rw[Nat.succ_mul]
  omega
end
theorem Vp{x:Am}(a:B9 x=true):(AN x).length<=20000:=by
 obtain ⟨q,c,l,e,j,f,n,b,_⟩:=Fg a
 unfold AN Ie Fu Du Fv Eo Ep
 have e1:(x.lets.zipIdx.flatMap fun p=> [(p.1.value,1+(p.2:Int))]).length<=x.lets.length*1:=Fl fun _ _ _=>by simp
 have e2:(x.crops.zipIdx.flatMap fun p=> [(p.1.need,(0:Int))]).length<=x.crops.length*1:=Fl fun _ _ _=>by simp
 have g:(x.reaches.zipIdx.flatMap fun p=> [(p.1.delay,(0:Int)),(p.1.cap,0),(p.1.bank,0),(p.1.siphon,0),(p.1.evap0,0),(p.1.evap1,0),(p.1.seep0,0),(p.1.seep1,0)]).length<=x.reaches.length*8:=Fl fun _ _ _=>by simp
 have o:(x.farms.zipIdx.flatMap fun p=> [(p.1.area,(0:Int))]).length<=x.farms.length*1:=Fl fun _ _ _=>by simp
 have k:(HY x.rots).length<=x.rots.length*67:=by
  unfold HY
  refine Fl fun d hd i=>?_
  have h1:(DD d.turns).length<=d.turns.length*1:=by unfold DD;exact Fl fun _ _ _=>by simp
  have:=b d hd
  simp only[yq,yI,yM]
  omega
 have h:(x.rights.zipIdx.flatMap fun p=> [(p.1.flow,(0:Int)),(p.1.frm,0),(p.1.to,0),(p.1.every,0),(p.1.len,0)]).length<=x.rights.length*5:=Fl fun _ _ _=>by simp
 have m:(x.duties.zipIdx.flatMap fun p=> [(p.1.due,(0:Int))]).length<=x.duties.length*1:=Fl fun _ _ _=>by simp
 simp only[yq,yI,yM]
 omega
theorem Pn{x:Am}(b:B9 x=true)(a:CV t x=true):(DH x).length<=900000000:=by
 obtain ⟨r,h,o,i,m,j,p,g,f⟩:=Fg b
 have n:=Vp b
 unfold CV at a
 simp only[yv] at a
 have h1:=a.1
 rw[yO] at h1
 have e0:((AN x).flatMap IP).length<=(AN x).length*511:=AK fun e c=>by
  unfold IP
  split
  ·simp
  ·rename_i hl
   have h2:=h1 e c
   unfold AP at h2
   rw[qh,or_iff_right hl] at h2
   have h3:=Pm e.2 e.1 h2
   have h4:2 ^ (AJ e.1+1)<=2 ^ 9:=Nat.pow_le_pow_right (by omega) (by have:=f e c;omega)
   omega
 have e1:(x.farms.flatMap Io).length<=x.farms.length*2:=AK fun _ _=>by simp[Io]
 have e2:(x.rots.flatMap JF).length<=x.rots.length*65:=AK fun d hd=>by
  have h1:(d.turns.flatMap fun k:Bv=> [k.farm]).length<=d.turns.length*1:=AK fun _ _=>by simp
  have:=g d hd
  unfold JF
  rw[yI];omega
 have l:(x.rights.flatMap H6).length<=x.rights.length*2:=AK fun _ _=>by simp[H6]
 have q:(x.duties.flatMap Ip).length<=x.duties.length*2:=AK fun _ _=>by simp[Ip]
 unfold DH Bl
 simp only[yq,yN]
 omega
end
theorem JG{w w':World}{x:Am}{e:Ending}(h:FJ w x e w'):∃cs:LV,e=.returned (.tuple #[.agg cs.toArray,.int .i64 (Ay x)])∧cs.length=26∧(∀v∈cs,v.oneCell'=true)∧Below w.heap.size w w'∧(Ay x=0->∃(L:Bw) (N:NP),Bb N w' L cs (Ab x)∧∀b,N b->w.heap.size<=b∧b < w'.heap.size):=by
 obtain ⟨hb,⟨h0,rfl⟩|⟨h0,cs,rfl,L,N,hl,hs,hN⟩⟩:=h
 ·exact ⟨A5,rfl,rfl,fun v a=>yO.1 (show A5.all (fun v=>v.oneCell')=true from rfl) v a,hb,fun h=>absurd h h0⟩
 ·exact ⟨cs,by rw[h0],hl,NK hs,hb,fun _=>⟨L,N,hs,hN⟩⟩
def Tb.at(t:Tb)(c:Int):LB:=if c=0 then t.lets else if c=1 then t.crops else if c=2 then t.reaches else t.farms
def Xs(w:World)(cs:LV):World:=w.alloc (.cells cs.toArray 35)
theorem WB{w w1 w2:World}{x y:Am}{L l:Bw}{ks rs:LV}{N g:NP}(j:Below w.heap.size w w1)(q:w1.heap.size=w.heap.size+1)(hs:Bb N w1 L ks x)(n:w1.rangeAt w.heap.size 0 ks)(hN:∀b,N b->b < w.heap.size)(a:Below w1.heap.size w1 w2)(k:Bb g w2 l rs y)(e:∀b,g b->b < w2.heap.size):
  Dr (((w2.alloc (.cells rs.toArray 35)).alloc (.cells #[.slice none 0 0] 127)).alloc (.cells #[.slice none 0 0] 127)) w.heap.size (w2.heap.size+1) x {L with s:=w.heap.size} ks N∧
  Dr (((w2.alloc (.cells rs.toArray 35)).alloc (.cells #[.slice none 0 0] 127)).alloc (.cells #[.slice none 0 0] 127)) w2.heap.size (w2.heap.size+1) y {l with s:=w2.heap.size} rs g∧
  Below w.heap.size w (((w2.alloc (.cells rs.toArray 35)).alloc (.cells #[.slice none 0 0] 127)).alloc (.cells #[.slice none 0 0] 127))∧
  (((w2.alloc (.cells rs.toArray 35)).alloc (.cells #[.slice none 0 0] 127)).alloc (.cells #[.slice none 0 0] 127)).heap[w2.heap.size+1]?=some (.cells #[.slice none 0 0] 127 (0,0))∧
  (((w2.alloc (.cells rs.toArray 35)).alloc (.cells #[.slice none 0 0] 127)).alloc (.cells #[.slice none 0 0] 127)).heap[w2.heap.size+2]?=some (.cells #[.slice none 0 0] 127 (0,0)):=by
 have o:=a.size
 have m:(w2.alloc (.cells rs.toArray 35)).heap.size=w2.heap.size+1:=by simp
 have p:((w2.alloc (.cells rs.toArray 35)).alloc (.cells j9 127)).heap.size=w2.heap.size+2:=by simp
 obtain ⟨W,f⟩:∃W,W=((w2.alloc (.cells rs.toArray 35)).alloc (.cells j9 127)).alloc (.cells j9 127):=⟨_,rfl⟩
 rw[<-f]
 have c:Below w2.heap.size w2 W:=by
  rw[f];exact (((yg _ _).alloc (yf _) _).alloc (by simp) _).alloc (by simp;omega) _
 have h3:W.heap[w2.heap.size]?=some (.cells rs.toArray 35 (0,0)):=by
  rw[f,yF _ _ _ (by omega),yF _ _ _ (by omega)]
  exact World.alloc_heap_new _ _
 have h4:W.heap[w2.heap.size+1]?=some (.cells j9 127 (0,0)):=by
  rw[f,yF _ _ _ (by omega)]
  have:=World.alloc_heap_new (w2.alloc (.cells rs.toArray 35)) (.cells j9 127)
  rwa [m] at this
 have h5:W.heap[w2.heap.size+2]?=some (.cells j9 127 (0,0)):=by
  rw[f]
  have:=World.alloc_heap_new ((w2.alloc (.cells rs.toArray 35)).alloc (.cells j9 127)) (.cells j9 127)
  rwa [p] at this
 have d:∀b,b < w1.heap.size->W.heap[b]?=w1.heap[b]?:=fun b hb=>(c.block b (by omega)).trans (a.block b hb)
 have i:W.rangeAt w2.heap.size 0 rs:=by
  have:=yU h3 0 rs.length
  simpa using this
 refine ⟨⟨?_,rfl,A2 n (d _ (by omega)),fun b hb=>?_⟩,⟨?_,rfl,i,fun b hb=>?_⟩,?_,h4,h5⟩
 ·have h:=hs.same (N':=N) (w':=W) (fun _ h=>h) (fun b hb=>d b (by have:=hN b hb;omega))
  exact ⟨h.name,h.cells,h.lets,h.crops,h.reaches,h.farms,h.rots,h.rights,h.duties⟩
 ·rcases hb with rfl|hb
  ·omega
  ·have:=hN b hb;omega
 ·have h:=k.same (N':=g) (w':=W) (fun _ h=>h) (fun b hb=>c.block b (e b hb))
  exact ⟨h.name,h.cells,h.lets,h.crops,h.reaches,h.farms,h.rots,h.rights,h.duties⟩
 ·rcases hb with rfl|hb
  ·omega
  ·have:=e b hb;omega
 ·exact (j.trans (a.mono (by omega))).trans (c.mono (by omega))
theorem Nq{w:World}{x:Am}{L:Bw}{cs:LV}{N:NP}(h:Bb N w L cs x)(hN:∀b,N b->b < w.heap.size)(y:Ih x)(P:GV w)(hd:∀e∈AN x,AJ e.1<=1000000):
  Calls Try.prog 14 #[.agg cs.toArray] w fun e w'=>e=.returned (.int .i64 (FC x))∧Below w.heap.size w w':=by
 obtain ⟨w1,d⟩:∃w1,w1=Xs w cs:=⟨_,rfl⟩
 have f:Below w.heap.size w w1:=by rw[d];exact (yg _ _).alloc (yf _) _
 have F:w1.heap.size=w.heap.size+1:=by rw[d];simp[Xs]
 have D:w1.rangeAt w.heap.size 0 cs:=by
  rw[d];unfold Xs
  have:=yU (World.alloc_heap_new w (.cells cs.toArray 35)) 0 cs.length
  simpa using this
 have q:Bb N w1 L cs x:=h.same (fun _ h=>h) (fun b hb=>f.block b (hN b hb))
 have E:=yb f;have m:=yb F;have p:=yb D;have s:=yb q;have W:=yb hN
 have g:=yb (Ej q (fun b hb=>by have:=hN b hb;omega) y (P.below f P.1) hd)
 have G:Hid ((Try.prog.info? 35).map (·.size)=some cs.length):=yb (by
  obtain ⟨c0,c1,c2,rfl,M,g1,J⟩:=h.cells
  obtain ⟨X,p0,rfl,e0⟩:=M.cells
  obtain ⟨Y,p1,rfl,e1⟩:=g1.cells
  obtain ⟨a2,p2,rfl,e2⟩:=J.cells
  kernel_rfl)
 have I:=yb d
 clear d f F D q hN y P hd
 obtain ⟨ks,r⟩:∃ks,ks=cs:=⟨_,rfl⟩
 rw[<-r] at p s g G
 have U:=yb r
 obtain ⟨c0,c1,c2,rfl,M,g1,J⟩:=h.cells
 obtain ⟨X,p0,rfl,e0⟩:=M.cells
 obtain ⟨Y,p1,rfl,e1⟩:=g1.cells
 obtain ⟨a2,p2,rfl,e2⟩:=J.cells
 clear h M g1 J e0 e1 e2 r
 unfold Ai.v at*
 simp only[z8,zk] at I U ⊢
 refine Cv (n:=10) Try.func14 rfl ?_
 have O:=Ud w x
 generalize bodyPostM Fence.wide 10 Try.prog Try.f14 _=Q at O ⊢
 have T:=yb O
 clear O
 simp only[Try.ntmps14,yD,yI,yM,Nat.reduceAdd,Nat.reduceSub,zO,zP,xe,zU,zk,z8]
 refine Ah (A7 ?_)
 go_wp2
 have e1:=I.o
 unfold Xs at e1
 rw[<-e1,<-U.o]
 clear e1
 refine Ah (A7 ?_)
 go_upto_region 1 with fail
 refine xi ?_
 refine ym rfl 35 _ rfl w.heap.size 0 rfl ks _ p.o qM rfl G.o ?_
 refine yG rfl fun K a=>?_
 go_simp
 refine g.o.mono ?_
 intro e w2 j
 obtain ⟨rs,rfl,C,k,H,z⟩:=JG j
 clear j
 refine a _ _ ?_
 clear a K
 have i:=yb C;have B:=yb (yV k);have l:=yb H;have R:=yb z
 clear C k H z
 iterate 4
  refine yG rfl fun K a=>?_
  go_simp
  refine a _ _ ?_
  clear a K
 refine yZ rfl 35 _ _ rfl w2.heap.size rs.toArray rfl rfl 35 _ (World.alloc_heap_new _ _) (by rw[yD,i.o];kernel_rfl) (by simp[i.o]) B.o ?_
 rw[World.setRow_alloc_new]
 refine yG rfl fun K a=>?_
 go_simp
 refine a _ _ ?_
 clear a K
 refine xG ?_
 by_cases hc:Ay x=0
 ·have u:=yb (R.o hc)
  have A:=yb hc
  simp only[hc]
  clear hc
  iterate 2
   refine Ah (A7 ?_)
   go_wp2
  obtain ⟨L2,N2,s2,n2⟩:=u.o
  obtain ⟨k1,k2,k3,V,Z⟩:=WB E.o m.o s.o p.o W.o l.o s2 (fun b hb=>(n2 b hb).2)
  obtain ⟨S,_,_,_,z5⟩:=F1 A.o
  exact Xi (base:=w2.heap.size+3) T.o A.o k1 k2 (by omega) (by omega) k3 (by simp) ⟨_,V⟩ V Z (Pn S z5) (Pn (Rw S) (Ng z5)) _ _ _ _ _ _ _ _ _ _ _ _ _ _ _ _ _ _ _ _ _ _ _ _ _ _ _ _ _ _ _ _ _ _ _ _ _ _ _ _ _ _ _ _ _ _ _ _ _ _ _ _ _ _ _ _ _ _ _
 ·have t:Hid (FC x=Ay x):=yb (by unfold FC;rw[yu hc])
  generalize Ay x=c at hc t ⊢
  have a6:(c !=0)=true:=by simpa using hc
  refine Ah (A7 ?_)
  go_wp2
  exact T.o.early c _ _ rfl ((E.o.trans (l.o.mono (by have:=m.o;omega))).alloc (by have:=l.o.size;have:=m.o;omega) _) t.o
theorem Lf(n u:Int)(w:World):Calls Try.prog 66 #[.int .i64 n,.int .i64 u] w fun e w'=>e=.returned (.agg #[.int .i64 1,.int .i64 n,.int .i64 u,.string ⟨#[]⟩,.int .i64 0,.slice none 0 0])∧Below w.heap.size w w':=by
 go_enter Try.func66,Try.ntmps66
 go_wp2
 have a:(w.alloc (.cells #[iV 1,iV n,iV u,.string ⟨#[]⟩,iV 0,.slice none 0 0] 26)).rangeAt w.heap.size 0 [iV 1,iV n,iV u,.string ⟨#[]⟩,iV 0,.slice none 0 0]:=yU (World.alloc_heap_new w _) 0 6
 exact ⟨rfl,_,Hk rfl rfl (qg _ w.heap.size 0 26 _ _ a qD rfl (by kernel_rfl)),rfl,(yg _ _).alloc (yf _) _⟩
def Bk(B:Nat)(w:World)(g:Nat)(row:Array Value)(ty:TypeId):Prop:=B < g∧w.heap[g]?=some (.cells row ty (0,0))
def Gc(B:Nat)(w w':World):Prop:=∀(b:Nat) (o:Obj),B < b->w.heap[b]?=some o->w'.heap[b]?=some o
theorem Bk.le{B:Nat}{w w':World}{g:Nat}{row:Array Value}{ty:TypeId}(h:Bk B w g row ty)(hl:Gc B w w'):Bk B w' g row ty:=⟨h.1,hl _ _ h.1 h.2⟩
theorem Gc.below{B:Nat}{w w':World}(h:Below w.heap.size w w'):Gc B w w':=fun b _ _ hb=>(h.block b (ye.1 hb).1).trans hb
theorem Gc.refl(B:Nat)(w:World):Gc B w w:=fun _ _ _ h=>h
def AI(B:Nat)(j:Nat)(v:Value)(w:World):Prop:=match j with
 |0=>v=.agg #[.int .i64 1,.int .i64 2,.int .i64 4,.string ⟨#[]⟩,.int .i64 0,.slice none 0 0]
 |1=>v=.agg #[.int .i64 1,.int .i64 3,.int .i64 1,.string ⟨#[]⟩,.int .i64 0,.slice none 0 0]
 |2=>v=.agg #[.string ⟨#[116]⟩,.int .i64 1,.int .i64 3,.int .i64 1,.string ⟨#[]⟩,.int .i64 0,.slice none 0 0]
 |3=>v=.agg #[.string ⟨#[116]⟩,.int .i64 0]
 |4=>v=.agg #[.int .i64 2,.int .i64 0,.int .i64 0,.string ⟨#[116]⟩,.int .i64 0,.slice none 0 0]
 |5=>v=.agg #[.int .i64 1,.int .i64 1,.int .i64 1,.string ⟨#[]⟩,.int .i64 0,.slice none 0 0]
 |6=>∃a:Nat,v=.slice (some ⟨a,0,none⟩) 2 2∧Bk B w a #[.int .i64 2,.int .i64 0,.int .i64 0,.string ⟨#[116]⟩,.int .i64 0,.slice none 0 0,.int .i64 1,.int .i64 1,.int .i64 1,.string ⟨#[]⟩,.int .i64 0,.slice none 0 0] 26
 |7=>∃a:Nat,v=.agg #[.int .i64 3,.int .i64 0,.int .i64 0,.string ⟨#[]⟩,.int .i64 0,.slice (some ⟨a,0,none⟩) 2 2]∧Bk B w a #[.int .i64 2,.int .i64 0,.int .i64 0,.string ⟨#[116]⟩,.int .i64 0,.slice none 0 0,.int .i64 1,.int .i64 1,.int .i64 1,.string ⟨#[]⟩,.int .i64 0,.slice none 0 0] 26
 |8=>∃a:Nat,v=.agg #[.string ⟨#[117]⟩,.int .i64 3,.int .i64 0,.int .i64 0,.string ⟨#[]⟩,.int .i64 0,.slice (some ⟨a,0,none⟩) 2 2]∧Bk B w a #[.int .i64 2,.int .i64 0,.int .i64 0,.string ⟨#[116]⟩,.int .i64 0,.slice none 0 0,.int .i64 1,.int .i64 1,.int .i64 1,.string ⟨#[]⟩,.int .i64 0,.slice none 0 0] 26
 |9=>∃a h:Nat,v=.slice (some ⟨h,0,none⟩) 2 2∧Bk B w a #[.int .i64 2,.int .i64 0,.int .i64 0,.string ⟨#[116]⟩,.int .i64 0,.slice none 0 0,.int .i64 1,.int .i64 1,.int .i64 1,.string ⟨#[]⟩,.int .i64 0,.slice none 0 0] 26∧Bk B w h #[.string ⟨#[116]⟩,.int .i64 1,.int .i64 3,.int .i64 1,.string ⟨#[]⟩,.int .i64 0,.slice none 0 0,.string ⟨#[117]⟩,.int .i64 3,.int .i64 0,.int .i64 0,.string ⟨#[]⟩,.int .i64 0,.slice (some ⟨a,0,none⟩) 2 2] 55
 |10=>v=.agg #[.string ⟨#[99,111,114,110]⟩,.int .i64 0,.int .i64 0,.int .i64 0,.string ⟨#[]⟩,.int .i64 0,.slice none 0 0]
 |11=>v=.agg #[.string ⟨#[114,105,99,101]⟩,.int .i64 0,.int .i64 0,.int .i64 0,.string ⟨#[]⟩,.int .i64 0,.slice none 0 0]
 |12=>∃i:Nat,v=.slice (some ⟨i,0,none⟩) 2 2∧Bk B w i #[.string ⟨#[99,111,114,110]⟩,.int .i64 0,.int .i64 0,.int .i64 0,.string ⟨#[]⟩,.int .i64 0,.slice none 0 0,.string ⟨#[114,105,99,101]⟩,.int .i64 0,.int .i64 0,.int .i64 0,.string ⟨#[]⟩,.int .i64 0,.slice none 0 0] 57
 |13=>v=.agg #[.string ⟨#[104,101,97,100]⟩,.string ⟨#[]⟩,.int .i64 0,.int .i64 1,.int .i64 1,.int .i64 3,.string ⟨#[]⟩,.int .i64 0,.slice none 0 0,.int .i64 2,.int .i64 0,.int .i64 0,.string ⟨#[117]⟩,.int .i64 0,.slice none 0 0,.int .i64 0,.int .i64 0,.int .i64 0,.string ⟨#[]⟩,.int .i64 0,.slice none 0 0,.int .i64 0,.int .i64 0,.int .i64 0,.string ⟨#[]⟩,.int .i64 0,.slice none 0 0,.int .i64 0,.int .i64 0,.int .i64 0,.string ⟨#[]⟩,.int .i64 0,.slice none 0 0,.int .i64 0,.int .i64 0,.int .i64 0,.string ⟨#[]⟩,.int .i64 0,.slice none 0 0,.int .i64 0,.int .i64 0,.int .i64 0,.string ⟨#[]⟩,.int .i64 0,.slice none 0 0,.int .i64 0,.int .i64 0,.int .i64 0,.string ⟨#[]⟩,.int .i64 0,.slice none 0 0]
 |14=>v=.agg #[.string ⟨#[104,101,97,100]⟩,.int .i64 0]
 |15=>v=.agg #[.string ⟨#[116,97,105,108]⟩,.string ⟨#[104,101,97,100]⟩,.int .i64 0,.int .i64 0,.int .i64 0,.int .i64 0,.string ⟨#[]⟩,.int .i64 0,.slice none 0 0,.int .i64 0,.int .i64 0,.int .i64 0,.string ⟨#[]⟩,.int .i64 0,.slice none 0 0,.int .i64 0,.int .i64 0,.int .i64 0,.string ⟨#[]⟩,.int .i64 0,.slice none 0 0,.int .i64 0,.int .i64 0,.int .i64 0,.string ⟨#[]⟩,.int .i64 0,.slice none 0 0,.int .i64 0,.int .i64 0,.int .i64 0,.string ⟨#[]⟩,.int .i64 0,.slice none 0 0,.int .i64 0,.int .i64 0,.int .i64 0,.string ⟨#[]⟩,.int .i64 0,.slice none 0 0,.int .i64 0,.int .i64 0,.int .i64 0,.string ⟨#[]⟩,.int .i64 0,.slice none 0 0,.int .i64 0,.int .i64 0,.int .i64 0,.string ⟨#[]⟩,.int .i64 0,.slice none 0 0]
 |16=>∃c:Nat,v=.slice (some ⟨c,0,none⟩) 2 2∧Bk B w c #[.string ⟨#[104,101,97,100]⟩,.string ⟨#[]⟩,.int .i64 0,.int .i64 1,.int .i64 1,.int .i64 3,.string ⟨#[]⟩,.int .i64 0,.slice none 0 0,.int .i64 2,.int .i64 0,.int .i64 0,.string ⟨#[117]⟩,.int .i64 0,.slice none 0 0,.int .i64 0,.int .i64 0,.int .i64 0,.string ⟨#[]⟩,.int .i64 0,.slice none 0 0,.int .i64 0,.int .i64 0,.int .i64 0,.string ⟨#[]⟩,.int .i64 0,.slice none 0 0,.int .i64 0,.int .i64 0,.int .i64 0,.string ⟨#[]⟩,.int .i64 0,.slice none 0 0,.int .i64 0,.int .i64 0,.int .i64 0,.string ⟨#[]⟩,.int .i64 0,.slice none 0 0,.int .i64 0,.int .i64 0,.int .i64 0,.string ⟨#[]⟩,.int .i64 0,.slice none 0 0,.int .i64 0,.int .i64 0,.int .i64 0,.string ⟨#[]⟩,.int .i64 0,.slice none 0 0,.string ⟨#[116,97,105,108]⟩,.string ⟨#[104,101,97,100]⟩,.int .i64 0,.int .i64 0,.int .i64 0,.int .i64 0,.string ⟨#[]⟩,.int .i64 0,.slice none 0 0,.int .i64 0,.int .i64 0,.int .i64 0,.string ⟨#[]⟩,.int .i64 0,.slice none 0 0,.int .i64 0,.int .i64 0,.int .i64 0,.string ⟨#[]⟩,.int .i64 0,.slice none 0 0,.int .i64 0,.int .i64 0,.int .i64 0,.string ⟨#[]⟩,.int .i64 0,.slice none 0 0,.int .i64 0,.int .i64 0,.int .i64 0,.string ⟨#[]⟩,.int .i64 0,.slice none 0 0,.int .i64 0,.int .i64 0,.int .i64 0,.string ⟨#[]⟩,.int .i64 0,.slice none 0 0,.int .i64 0,.int .i64 0,.int .i64 0,.string ⟨#[]⟩,.int .i64 0,.slice none 0 0,.int .i64 0,.int .i64 0,.int .i64 0,.string ⟨#[]⟩,.int .i64 0,.slice none 0 0] 51
 |17=>v=.agg #[.string ⟨#[116,97,105,108]⟩,.int .i64 0]
 |18=>v=.agg #[.string ⟨#[114,105,99,101]⟩,.int .i64 0]
 |19=>v=.agg #[.string ⟨#[97,110,97]⟩,.string ⟨#[116,97,105,108]⟩,.int .i64 0,.bool false,.int .i64 0,.int .i64 0,.int .i64 0,.string ⟨#[]⟩,.int .i64 0,.slice none 0 0,.string ⟨#[114,105,99,101]⟩,.int .i64 0]
 |20=>v=.agg #[.string ⟨#[104,101,97,100]⟩,.int .i64 0]
 |21=>v=.agg #[.string ⟨#[98,101,97]⟩,.string ⟨#[104,101,97,100]⟩,.int .i64 0,.bool true,.int .i64 0,.int .i64 0,.int .i64 0,.string ⟨#[]⟩,.int .i64 0,.slice none 0 0,.string ⟨#[]⟩,.int .i64 0]
 |22=>∃g:Nat,v=.slice (some ⟨g,0,none⟩) 2 2∧Bk B w g #[.string ⟨#[97,110,97]⟩,.string ⟨#[116,97,105,108]⟩,.int .i64 0,.bool false,.int .i64 0,.int .i64 0,.int .i64 0,.string ⟨#[]⟩,.int .i64 0,.slice none 0 0,.string ⟨#[114,105,99,101]⟩,.int .i64 0,.string ⟨#[98,101,97]⟩,.string ⟨#[104,101,97,100]⟩,.int .i64 0,.bool true,.int .i64 0,.int .i64 0,.int .i64 0,.string ⟨#[]⟩,.int .i64 0,.slice none 0 0,.string ⟨#[]⟩,.int .i64 0] 59
 |23=>v=.agg #[.string ⟨#[116,97,105,108]⟩,.int .i64 0]
 |24=>v=.agg #[.string ⟨#[97,110,97]⟩,.int .i64 0]
 |25=>v=.agg #[.string ⟨#[97,110,97]⟩,.int .i64 0,.int .i64 0,.int .i64 0,.int .i64 0,.string ⟨#[]⟩,.int .i64 0,.slice none 0 0]
 |26=>∃b:Nat,v=.slice (some ⟨b,0,none⟩) 1 1∧Bk B w b #[.string ⟨#[97,110,97]⟩,.int .i64 0,.int .i64 0,.int .i64 0,.int .i64 0,.string ⟨#[]⟩,.int .i64 0,.slice none 0 0] 66
 |27=>∃b:Nat,v=.agg #[.string ⟨#[116,117,114,110,115]⟩,.string ⟨#[116,97,105,108]⟩,.int .i64 0,.int .i64 0,.int .i64 0,.int .i64 0,.int .i64 0,.string ⟨#[]⟩,.int .i64 0,.slice none 0 0,.int .i64 0,.int .i64 0,.int .i64 0,.string ⟨#[]⟩,.int .i64 0,.slice none 0 0,.int .i64 0,.int .i64 0,.int .i64 0,.string ⟨#[]⟩,.int .i64 0,.slice none 0 0,.slice (some ⟨b,0,none⟩) 1 1]∧Bk B w b #[.string ⟨#[97,110,97]⟩,.int .i64 0,.int .i64 0,.int .i64 0,.int .i64 0,.string ⟨#[]⟩,.int .i64 0,.slice none 0 0] 66
 |28=>∃b e:Nat,v=.slice (some ⟨e,0,none⟩) 1 1∧Bk B w b #[.string ⟨#[97,110,97]⟩,.int .i64 0,.int .i64 0,.int .i64 0,.int .i64 0,.string ⟨#[]⟩,.int .i64 0,.slice none 0 0] 66∧Bk B w e #[.string ⟨#[116,117,114,110,115]⟩,.string ⟨#[116,97,105,108]⟩,.int .i64 0,.int .i64 0,.int .i64 0,.int .i64 0,.int .i64 0,.string ⟨#[]⟩,.int .i64 0,.slice none 0 0,.int .i64 0,.int .i64 0,.int .i64 0,.string ⟨#[]⟩,.int .i64 0,.slice none 0 0,.int .i64 0,.int .i64 0,.int .i64 0,.string ⟨#[]⟩,.int .i64 0,.slice none 0 0,.slice (some ⟨b,0,none⟩) 1 1] 64
 |29=>v=.agg #[.string ⟨#[98,101,97]⟩,.int .i64 0]
 |30=>v=.agg #[.string ⟨#[116,97,105,108]⟩,.int .i64 0]
 |31=>v=.agg #[.int .i64 2,.string ⟨#[109,105,110,101]⟩,.string ⟨#[98,101,97]⟩,.int .i64 0,.string ⟨#[116,97,105,108]⟩,.int .i64 0,.int .i64 0,.int .i64 0,.int .i64 0,.int .i64 0,.string ⟨#[]⟩,.int .i64 0,.slice none 0 0,.int .i64 0,.int .i64 0,.int .i64 0,.string ⟨#[]⟩,.int .i64 0,.slice none 0 0,.int .i64 0,.int .i64 0,.int .i64 0,.string ⟨#[]⟩,.int .i64 0,.slice none 0 0,.int .i64 0,.int .i64 0,.int .i64 0,.string ⟨#[]⟩,.int .i64 0,.slice none 0 0,.int .i64 0,.int .i64 0,.int .i64 0,.string ⟨#[]⟩,.int .i64 0,.slice none 0 0]
 |32=>∃d:Nat,v=.slice (some ⟨d,0,none⟩) 1 1∧Bk B w d #[.int .i64 2,.string ⟨#[109,105,110,101]⟩,.string ⟨#[98,101,97]⟩,.int .i64 0,.string ⟨#[116,97,105,108]⟩,.int .i64 0,.int .i64 0,.int .i64 0,.int .i64 0,.int .i64 0,.string ⟨#[]⟩,.int .i64 0,.slice none 0 0,.int .i64 0,.int .i64 0,.int .i64 0,.string ⟨#[]⟩,.int .i64 0,.slice none 0 0,.int .i64 0,.int .i64 0,.int .i64 0,.string ⟨#[]⟩,.int .i64 0,.slice none 0 0,.int .i64 0,.int .i64 0,.int .i64 0,.string ⟨#[]⟩,.int .i64 0,.slice none 0 0,.int .i64 0,.int .i64 0,.int .i64 0,.string ⟨#[]⟩,.int .i64 0,.slice none 0 0] 68
 |33=>v=.agg #[.string ⟨#[98,101,97]⟩,.int .i64 0]
 |34=>v=.agg #[.string ⟨#[116,97,105,108]⟩,.int .i64 0]
 |35=>v=.agg #[.string ⟨#[99,108,101,97,110]⟩,.string ⟨#[98,101,97]⟩,.int .i64 0,.string ⟨#[116,97,105,108]⟩,.int .i64 0,.int .i64 0,.int .i64 0,.int .i64 0,.string ⟨#[]⟩,.int .i64 0,.slice none 0 0]
 |36=>∃f:Nat,v=.slice (some ⟨f,0,none⟩) 1 1∧Bk B w f #[.string ⟨#[99,108,101,97,110]⟩,.string ⟨#[98,101,97]⟩,.int .i64 0,.string ⟨#[116,97,105,108]⟩,.int .i64 0,.int .i64 0,.int .i64 0,.int .i64 0,.string ⟨#[]⟩,.int .i64 0,.slice none 0 0] 70
 |37=>∃a h i c g b e d f:Nat,v=.agg #[.string ⟨#[118,101,103,97]⟩,.int .i64 1,.int .i64 2,.int .i64 4,.string ⟨#[]⟩,.int .i64 0,.slice none 0 0,.int .i64 0,.int .i64 0,.int .i64 0,.string ⟨#[]⟩,.int .i64 0,.slice none 0 0,.int .i64 0,.int .i64 0,.int .i64 0,.string ⟨#[]⟩,.int .i64 0,.slice none 0 0,.slice (some ⟨h,0,none⟩) 2 2,.slice (some ⟨i,0,none⟩) 2 2,.slice (some ⟨c,0,none⟩) 2 2,.slice (some ⟨g,0,none⟩) 2 2,.slice (some ⟨e,0,none⟩) 1 1,.slice (some ⟨d,0,none⟩) 1 1,.slice (some ⟨f,0,none⟩) 1 1]∧Bk B w a #[.int .i64 2,.int .i64 0,.int .i64 0,.string ⟨#[116]⟩,.int .i64 0,.slice none 0 0,.int .i64 1,.int .i64 1,.int .i64 1,.string ⟨#[]⟩,.int .i64 0,.slice none 0 0] 26∧Bk B w h #[.string ⟨#[116]⟩,.int .i64 1,.int .i64 3,.int .i64 1,.string ⟨#[]⟩,.int .i64 0,.slice none 0 0,.string ⟨#[117]⟩,.int .i64 3,.int .i64 0,.int .i64 0,.string ⟨#[]⟩,.int .i64 0,.slice (some ⟨a,0,none⟩) 2 2] 55∧Bk B w i #[.string ⟨#[99,111,114,110]⟩,.int .i64 0,.int .i64 0,.int .i64 0,.string ⟨#[]⟩,.int .i64 0,.slice none 0 0,.string ⟨#[114,105,99,101]⟩,.int .i64 0,.int .i64 0,.int .i64 0,.string ⟨#[]⟩,.int .i64 0,.slice none 0 0] 57∧Bk B w c #[.string ⟨#[104,101,97,100]⟩,.string ⟨#[]⟩,.int .i64 0,.int .i64 1,.int .i64 1,.int .i64 3,.string ⟨#[]⟩,.int .i64 0,.slice none 0 0,.int .i64 2,.int .i64 0,.int .i64 0,.string ⟨#[117]⟩,.int .i64 0,.slice none 0 0,.int .i64 0,.int .i64 0,.int .i64 0,.string ⟨#[]⟩,.int .i64 0,.slice none 0 0,.int .i64 0,.int .i64 0,.int .i64 0,.string ⟨#[]⟩,.int .i64 0,.slice none 0 0,.int .i64 0,.int .i64 0,.int .i64 0,.string ⟨#[]⟩,.int .i64 0,.slice none 0 0,.int .i64 0,.int .i64 0,.int .i64 0,.string ⟨#[]⟩,.int .i64 0,.slice none 0 0,.int .i64 0,.int .i64 0,.int .i64 0,.string ⟨#[]⟩,.int .i64 0,.slice none 0 0,.int .i64 0,.int .i64 0,.int .i64 0,.string ⟨#[]⟩,.int .i64 0,.slice none 0 0,.string ⟨#[116,97,105,108]⟩,.string ⟨#[104,101,97,100]⟩,.int .i64 0,.int .i64 0,.int .i64 0,.int .i64 0,.string ⟨#[]⟩,.int .i64 0,.slice none 0 0,.int .i64 0,.int .i64 0,.int .i64 0,.string ⟨#[]⟩,.int .i64 0,.slice none 0 0,.int .i64 0,.int .i64 0,.int .i64 0,.string ⟨#[]⟩,.int .i64 0,.slice none 0 0,.int .i64 0,.int .i64 0,.int .i64 0,.string ⟨#[]⟩,.int .i64 0,.slice none 0 0,.int .i64 0,.int .i64 0,.int .i64 0,.string ⟨#[]⟩,.int .i64 0,.slice none 0 0,.int .i64 0,.int .i64 0,.int .i64 0,.string ⟨#[]⟩,.int .i64 0,.slice none 0 0,.int .i64 0,.int .i64 0,.int .i64 0,.string ⟨#[]⟩,.int .i64 0,.slice none 0 0,.int .i64 0,.int .i64 0,.int .i64 0,.string ⟨#[]⟩,.int .i64 0,.slice none 0 0] 51∧Bk B w g #[.string ⟨#[97,110,97]⟩,.string ⟨#[116,97,105,108]⟩,.int .i64 0,.bool false,.int .i64 0,.int .i64 0,.int .i64 0,.string ⟨#[]⟩,.int .i64 0,.slice none 0 0,.string ⟨#[114,105,99,101]⟩,.int .i64 0,.string ⟨#[98,101,97]⟩,.string ⟨#[104,101,97,100]⟩,.int .i64 0,.bool true,.int .i64 0,.int .i64 0,.int .i64 0,.string ⟨#[]⟩,.int .i64 0,.slice none 0 0,.string ⟨#[]⟩,.int .i64 0] 59∧Bk B w b #[.string ⟨#[97,110,97]⟩,.int .i64 0,.int .i64 0,.int .i64 0,.int .i64 0,.string ⟨#[]⟩,.int .i64 0,.slice none 0 0] 66∧Bk B w e #[.string ⟨#[116,117,114,110,115]⟩,.string ⟨#[116,97,105,108]⟩,.int .i64 0,.int .i64 0,.int .i64 0,.int .i64 0,.int .i64 0,.string ⟨#[]⟩,.int .i64 0,.slice none 0 0,.int .i64 0,.int .i64 0,.int .i64 0,.string ⟨#[]⟩,.int .i64 0,.slice none 0 0,.int .i64 0,.int .i64 0,.int .i64 0,.string ⟨#[]⟩,.int .i64 0,.slice none 0 0,.slice (some ⟨b,0,none⟩) 1 1] 64∧Bk B w d #[.int .i64 2,.string ⟨#[109,105,110,101]⟩,.string ⟨#[98,101,97]⟩,.int .i64 0,.string ⟨#[116,97,105,108]⟩,.int .i64 0,.int .i64 0,.int .i64 0,.int .i64 0,.int .i64 0,.string ⟨#[]⟩,.int .i64 0,.slice none 0 0,.int .i64 0,.int .i64 0,.int .i64 0,.string ⟨#[]⟩,.int .i64 0,.slice none 0 0,.int .i64 0,.int .i64 0,.int .i64 0,.string ⟨#[]⟩,.int .i64 0,.slice none 0 0,.int .i64 0,.int .i64 0,.int .i64 0,.string ⟨#[]⟩,.int .i64 0,.slice none 0 0,.int .i64 0,.int .i64 0,.int .i64 0,.string ⟨#[]⟩,.int .i64 0,.slice none 0 0] 68∧Bk B w f #[.string ⟨#[99,108,101,97,110]⟩,.string ⟨#[98,101,97]⟩,.int .i64 0,.string ⟨#[116,97,105,108]⟩,.int .i64 0,.int .i64 0,.int .i64 0,.int .i64 0,.string ⟨#[]⟩,.int .i64 0,.slice none 0 0] 70
 |_=>True
theorem Nr{B:Nat}(j:Nat)(v:Value)(w w':World)(hl:Gc B w w')(h:AI B j v w):AI B j v w':=by
 match j,h with
 |0,h=>exact h
 |1,h=>exact h
 |2,h=>exact h
 |3,h=>exact h
 |4,h=>exact h
 |5,h=>exact h
 |6,h=>
  obtain ⟨a,h0,b⟩:=h
  exact ⟨a,h0,b.le hl⟩
 |7,h=>
  obtain ⟨a,h0,b⟩:=h
  exact ⟨a,h0,b.le hl⟩
 |8,h=>
  obtain ⟨a,h0,b⟩:=h
  exact ⟨a,h0,b.le hl⟩
 |9,h=>
  obtain ⟨a,k,h0,b,l⟩:=h
  exact ⟨a,k,h0,b.le hl,l.le hl⟩
 |10,h=>exact h
 |11,h=>exact h
 |12,h=>
  obtain ⟨q,h0,i⟩:=h
  exact ⟨q,h0,i.le hl⟩
 |13,h=>exact h
 |14,h=>exact h
 |15,h=>exact h
 |16,h=>
  obtain ⟨e,h0,n⟩:=h
  exact ⟨e,h0,n.le hl⟩
 |17,h=>exact h
 |18,h=>exact h
 |19,h=>exact h
 |20,h=>exact h
 |21,h=>exact h
 |22,h=>
  obtain ⟨p,h0,f⟩:=h
  exact ⟨p,h0,f.le hl⟩
 |23,h=>exact h
 |24,h=>exact h
 |25,h=>exact h
 |26,h=>
  obtain ⟨c,h0,d⟩:=h
  exact ⟨c,h0,d.le hl⟩
 |27,h=>
  obtain ⟨c,h0,d⟩:=h
  exact ⟨c,h0,d.le hl⟩
 |28,h=>
  obtain ⟨c,o,h0,d,r⟩:=h
  exact ⟨c,o,h0,d.le hl,r.le hl⟩
 |29,h=>exact h
 |30,h=>exact h
 |31,h=>exact h
 |32,h=>
  obtain ⟨m,h0,s⟩:=h
  exact ⟨m,h0,s.le hl⟩
 |33,h=>exact h
 |34,h=>exact h
 |35,h=>exact h
 |36,h=>
  obtain ⟨t,h0,g⟩:=h
  exact ⟨t,h0,g.le hl⟩
 |37,h=>
  obtain ⟨a,k,q,e,p,c,o,m,t,h0,b,l,i,n,f,d,r,s,g⟩:=h
  exact ⟨a,k,q,e,p,c,o,m,t,h0,b.le hl,l.le hl,i.le hl,n.le hl,f.le hl,d.le hl,r.le hl,s.le hl,g.le hl⟩
 |_+38,_=>trivial
structure RO (W:World) (B:Nat) (l:Array Bool) (w:World):Prop where
 one:l.getD 38 false=false->Below W.heap.size W w
 two:l.getD 38 false=true->∃w1 cells,AI B 37 (.agg cells) w1∧Below W.heap.size W w1∧w=w1.setRow B cells
theorem RO.quiet{W:World}{B:Nat}{l:Array Bool}{w w2:World}{i:Nat}(h:RO W B l w)(n:l.getD 38 false=false)(hi:i≠38)(hb:Below w.heap.size w w2):RO W B (l.setIfInBounds i true) w2:=
 ⟨fun _=>(h.one n).trans (hb.mono (h.one n).size),fun a=>by rw[Ac hi,n] at a;cases a⟩
def GJ:LV:=[.string ⟨#[104,101,97,100]⟩,.string ⟨#[]⟩,.int .i64 0,.int .i64 1,.int .i64 1,.int .i64 3,.string ⟨#[]⟩,.int .i64 0,.slice none 0 0,.int .i64 2,.int .i64 0,.int .i64 0,.string ⟨#[117]⟩,.int .i64 0,.slice none 0 0,.int .i64 0,.int .i64 0,.int .i64 0,.string ⟨#[]⟩,.int .i64 0,.slice none 0 0,.int .i64 0,.int .i64 0,.int .i64 0,.string ⟨#[]⟩,.int .i64 0,.slice none 0 0,.int .i64 0,.int .i64 0,.int .i64 0,.string ⟨#[]⟩,.int .i64 0,.slice none 0 0,.int .i64 0,.int .i64 0,.int .i64 0,.string ⟨#[]⟩,.int .i64 0,.slice none 0 0,.int .i64 0,.int .i64 0,.int .i64 0,.string ⟨#[]⟩,.int .i64 0,.slice none 0 0,.int .i64 0,.int .i64 0,.int .i64 0,.string ⟨#[]⟩,.int .i64 0,.slice none 0 0]
theorem QK{T:Act}{W0:World}{Q:QT}{B B2:Nat}{row0:Array Value}(ops:Array Oper)(R:Gs Try.f21 3=some ops)
 (bq:T.tmps.getD 0 undef=.pointer (some ⟨B,0,none⟩))(bn:T.tmps.getD 2 undef=.pointer (some ⟨B2,0,none⟩))(hz:T.tmps.size=46)(q:B < W0.heap.size)(a0:B2 < W0.heap.size)(S:W0.heap[B]?=some (.cells row0 35 (0,0)))(E:row0.size=26)
 (b8:W0.rangeAt B2 0 GJ)
 (hQ:∀(a:Act) w1 cells,a.tmps.size=46->a.defers=T.defers->(∀t,(t < 8∨45 < t)->a.tmps.getD t undef=T.tmps.getD t undef)->AI B 37 (.agg cells) w1->Below W0.heap.size W0 w1->Q .normal a (w1.setRow B cells)):
  (Code.region 3 ops true).wp Try.prog Q T W0:=by
 obtain rfl:=yh ((rfl:Gs Try.f21 3=some _).symm.trans R)
 clear R
 refine DP (by kernel_rfl) (fun l _ w=>RO W0 B l w) (AI B) (fun _=>Gc B) (by kernel_rfl) (by rw[hz];kernel_rfl) (by kernel_rfl) (fun _ j v w w' _ _ hl h=>Nr j v w w' hl h) ⟨fun _=>(yg _ _).drew,fun h=>(by cases h)⟩ ?_ ?_
 ·intro ix f a w' hM g o n
  have m:=yb hM.ext
  have bh:=(ye.1 n).1
  have bu:=hM.size
  match ix,bh with
  |0,_=>
   have c:f.getD 38 false=false:=by
    rw[yj];intro h6
    have:=A3 hM.down 40 38 0 (by kernel_rfl) h6
    rw[hM.not_yet g] at this;cases this
   have i:=yb c
   clear c
   obtain rfl:=yh n
   go_simp
   refine (Lf 2 4 _).mono ?_
   rintro e w2 ⟨rfl,u⟩
   exact ⟨_,rfl,m.o.quiet i.o (by decide) u,Gc.below u,rfl⟩
  |1,_=>
   have c:f.getD 38 false=false:=by
    rw[yj];intro h6
    have:=A3 hM.down 40 38 1 (by kernel_rfl) h6
    rw[hM.not_yet g] at this;cases this
   have i:=yb c
   clear c
   obtain rfl:=yh n
   go_simp
   refine (Lf 3 1 _).mono ?_
   rintro e w2 ⟨rfl,u⟩
   exact ⟨_,rfl,m.o.quiet i.o (by decide) u,Gc.below u,rfl⟩
  |2,_=>
   have c:f.getD 38 false=false:=by
    rw[yj];intro h6
    have:=A3 hM.down 40 38 2 (by kernel_rfl) h6
    rw[hM.not_yet g] at this;cases this
   have i:=yb c
   clear c
   have d9:=hM.dep g 1 9 (by kernel_rfl) (by kernel_rfl)
   unfold AI at d9
   simp only at d9
   obtain rfl:=yh n
   go_simp
   exact ⟨_,rfl,m.o.quiet i.o (by decide) (yg _ _),Gc.refl _ _,rfl⟩
  |3,_=>
   have c:f.getD 38 false=false:=by
    rw[yj];intro h6
    have:=A3 hM.down 40 38 3 (by kernel_rfl) h6
    rw[hM.not_yet g] at this;cases this
   have i:=yb c
   clear c
   obtain rfl:=yh n
   go_simp
   exact ⟨_,rfl,m.o.quiet i.o (by decide) (yg _ _),Gc.refl _ _,rfl⟩
  |4,_=>
   have c:f.getD 38 false=false:=by
    rw[yj];intro h6
    have:=A3 hM.down 40 38 4 (by kernel_rfl) h6
    rw[hM.not_yet g] at this;cases this
   have i:=yb c
   clear c
   have bb:=hM.dep g 3 11 (by kernel_rfl) (by kernel_rfl)
   unfold AI at bb
   simp only at bb
   obtain rfl:=yh n
   go_simp
   exact ⟨_,rfl,m.o.quiet i.o (by decide) (yg _ _),Gc.refl _ _,rfl⟩
  |5,_=>
   have c:f.getD 38 false=false:=by
    rw[yj];intro h6
    have:=A3 hM.down 40 38 5 (by kernel_rfl) h6
    rw[hM.not_yet g] at this;cases this
   have i:=yb c
   clear c
   obtain rfl:=yh n
   go_simp
   refine (Lf 1 1 _).mono ?_
   rintro e w2 ⟨rfl,u⟩
   exact ⟨_,rfl,m.o.quiet i.o (by decide) u,Gc.below u,rfl⟩
  |6,_=>
   have c:f.getD 38 false=false:=by
    rw[yj];intro h6
    have:=A3 hM.down 40 38 6 (by kernel_rfl) h6
    rw[hM.not_yet g] at this;cases this
   have i:=yb c
   clear c
   have ax:=hM.dep g 4 12 (by kernel_rfl) (by kernel_rfl)
   unfold AI at ax
   simp only at ax
   have ad:=hM.dep g 5 13 (by kernel_rfl) (by kernel_rfl)
   unfold AI at ad
   simp only at ad
   obtain rfl:=yh n
   go_simp
   have k:Below w'.heap.size w' (w'.alloc (.cells #[iV 2,iV 0,iV 0,.string ⟨#[116]⟩,iV 0,.slice none 0 0,iV 1,iV 1,iV 1,.string ⟨#[]⟩,iV 0,.slice none 0 0] 26)):=(yg _ _).alloc (yf _) _
   have p:B < w'.heap.size:=yr q (m.o.one i.o).size
   exact ⟨_,rfl,m.o.quiet i.o (by decide) k,Gc.below k,w'.heap.size,rfl,p,World.alloc_heap_new _ _⟩
  |7,_=>
   have c:f.getD 38 false=false:=by
    rw[yj];intro h6
    have:=A3 hM.down 40 38 7 (by kernel_rfl) h6
    rw[hM.not_yet g] at this;cases this
   have i:=yb c
   clear c
   have K:=hM.dep g 6 14 (by kernel_rfl) (by kernel_rfl)
   unfold AI at K
   simp only at K
   obtain ⟨s,K,r⟩:=K
   have y:=yb r
   clear r
   obtain rfl:=yh n
   go_simp
   exact ⟨_,rfl,m.o.quiet i.o (by decide) (yg _ _),Gc.refl _ _,s,rfl,y.o⟩
  |8,_=>
   have c:f.getD 38 false=false:=by
    rw[yj];intro h6
    have:=A3 hM.down 40 38 8 (by kernel_rfl) h6
    rw[hM.not_yet g] at this;cases this
   have i:=yb c
   clear c
   have O:=hM.dep g 7 15 (by kernel_rfl) (by kernel_rfl)
   unfold AI at O
   simp only at O
   obtain ⟨s,O,r⟩:=O
   have y:=yb r
   clear r
   obtain rfl:=yh n
   go_simp
   exact ⟨_,rfl,m.o.quiet i.o (by decide) (yg _ _),Gc.refl _ _,s,rfl,y.o⟩
  |9,_=>
   have c:f.getD 38 false=false:=by
    rw[yj];intro h6
    have:=A3 hM.down 40 38 9 (by kernel_rfl) h6
    rw[hM.not_yet g] at this;cases this
   have i:=yb c
   clear c
   have af:=hM.dep g 2 10 (by kernel_rfl) (by kernel_rfl)
   unfold AI at af
   simp only at af
   have J:=hM.dep g 8 16 (by kernel_rfl) (by kernel_rfl)
   unfold AI at J
   simp only at J
   obtain ⟨s,J,r⟩:=J
   have y:=yb r
   clear r
   obtain rfl:=yh n
   go_simp
   have k:Below w'.heap.size w' (w'.alloc (.cells #[.string ⟨#[116]⟩,iV 1,iV 3,iV 1,.string ⟨#[]⟩,iV 0,.slice none 0 0,.string ⟨#[117]⟩,iV 3,iV 0,iV 0,.string ⟨#[]⟩,iV 0,.slice (some (aV s 0)) 2 2] 55)):=(yg _ _).alloc (yf _) _
   have p:B < w'.heap.size:=yr q (m.o.one i.o).size
   exact ⟨_,rfl,m.o.quiet i.o (by decide) k,Gc.below k,s,w'.heap.size,rfl,y.o.le (Gc.below k),p,World.alloc_heap_new _ _⟩
  |10,_=>
   have c:f.getD 38 false=false:=by
    rw[yj];intro h6
    have:=A3 hM.down 40 38 10 (by kernel_rfl) h6
    rw[hM.not_yet g] at this;cases this
   have i:=yb c
   clear c
   obtain rfl:=yh n
   go_simp
   exact ⟨_,rfl,m.o.quiet i.o (by decide) (yg _ _),Gc.refl _ _,rfl⟩
  |11,_=>
   have c:f.getD 38 false=false:=by
    rw[yj];intro h6
    have:=A3 hM.down 40 38 11 (by kernel_rfl) h6
    rw[hM.not_yet g] at this;cases this
   have i:=yb c
   clear c
   obtain rfl:=yh n
   go_simp
   exact ⟨_,rfl,m.o.quiet i.o (by decide) (yg _ _),Gc.refl _ _,rfl⟩
  |12,_=>
   have c:f.getD 38 false=false:=by
    rw[yj];intro h6
    have:=A3 hM.down 40 38 12 (by kernel_rfl) h6
    rw[hM.not_yet g] at this;cases this
   have i:=yb c
   clear c
   have au:=hM.dep g 10 18 (by kernel_rfl) (by kernel_rfl)
   unfold AI at au
   simp only at au
   have ar:=hM.dep g 11 19 (by kernel_rfl) (by kernel_rfl)
   unfold AI at ar
   simp only at ar
   obtain rfl:=yh n
   go_simp
   have k:Below w'.heap.size w' (w'.alloc (.cells #[.string ⟨#[99,111,114,110]⟩,iV 0,iV 0,iV 0,.string ⟨#[]⟩,iV 0,.slice none 0 0,.string ⟨#[114,105,99,101]⟩,iV 0,iV 0,iV 0,.string ⟨#[]⟩,iV 0,.slice none 0 0] 57)):=(yg _ _).alloc (yf _) _
   have p:B < w'.heap.size:=yr q (m.o.one i.o).size
   exact ⟨_,rfl,m.o.quiet i.o (by decide) k,Gc.below k,w'.heap.size,rfl,p,World.alloc_heap_new _ _⟩
  |13,_=>
   have c:f.getD 38 false=false:=by
    rw[yj];intro h6
    have:=A3 hM.down 40 38 13 (by kernel_rfl) h6
    rw[hM.not_yet g] at this;cases this
   have i:=yb c
   clear c
   have d:=hM.old g 2 (by kernel_rfl) _ bn
   have bv:=yb (A2 b8 ((m.o.one i.o).block _ a0))
   clear b8
   obtain rfl:=yh n
   refine wp_load_mid 51 _ rfl B2 0 (by simpa[Act.eval] using d) GJ _ bv.o qS rfl (by kernel_rfl) ?_
   exact ⟨_,rfl,m.o.quiet i.o (by decide) (yg _ _),Gc.refl _ _,rfl⟩
  |14,_=>
   have c:f.getD 38 false=false:=by
    rw[yj];intro h6
    have:=A3 hM.down 40 38 14 (by kernel_rfl) h6
    rw[hM.not_yet g] at this;cases this
   have i:=yb c
   clear c
   obtain rfl:=yh n
   go_simp
   exact ⟨_,rfl,m.o.quiet i.o (by decide) (yg _ _),Gc.refl _ _,rfl⟩
  |15,_=>
   have c:f.getD 38 false=false:=by
    rw[yj];intro h6
    have:=A3 hM.down 40 38 15 (by kernel_rfl) h6
    rw[hM.not_yet g] at this;cases this
   have i:=yb c
   clear c
   have aw:=hM.dep g 14 22 (by kernel_rfl) (by kernel_rfl)
   unfold AI at aw
   simp only at aw
   obtain rfl:=yh n
   go_simp
   exact ⟨_,rfl,m.o.quiet i.o (by decide) (yg _ _),Gc.refl _ _,rfl⟩
  |16,_=>
   have c:f.getD 38 false=false:=by
    rw[yj];intro h6
    have:=A3 hM.down 40 38 16 (by kernel_rfl) h6
    rw[hM.not_yet g] at this;cases this
   have i:=yb c
   clear c
   have ah:=hM.dep g 13 21 (by kernel_rfl) (by kernel_rfl)
   unfold AI at ah
   simp only at ah
   have az:=hM.dep g 15 23 (by kernel_rfl) (by kernel_rfl)
   unfold AI at az
   simp only at az
   obtain rfl:=yh n
   go_simp
   have k:Below w'.heap.size w' (w'.alloc (.cells #[.string ⟨#[104,101,97,100]⟩,.string ⟨#[]⟩,iV 0,iV 1,iV 1,iV 3,.string ⟨#[]⟩,iV 0,.slice none 0 0,iV 2,iV 0,iV 0,.string ⟨#[117]⟩,iV 0,.slice none 0 0,iV 0,iV 0,iV 0,.string ⟨#[]⟩,iV 0,.slice none 0 0,iV 0,iV 0,iV 0,.string ⟨#[]⟩,iV 0,.slice none 0 0,iV 0,iV 0,iV 0,.string ⟨#[]⟩,iV 0,.slice none 0 0,iV 0,iV 0,iV 0,.string ⟨#[]⟩,iV 0,.slice none 0 0,iV 0,iV 0,iV 0,.string ⟨#[]⟩,iV 0,.slice none 0 0,iV 0,iV 0,iV 0,.string ⟨#[]⟩,iV 0,.slice none 0 0,.string ⟨#[116,97,105,108]⟩,.string ⟨#[104,101,97,100]⟩,iV 0,iV 0,iV 0,iV 0,.string ⟨#[]⟩,iV 0,.slice none 0 0,iV 0,iV 0,iV 0,.string ⟨#[]⟩,iV 0,.slice none 0 0,iV 0,iV 0,iV 0,.string ⟨#[]⟩,iV 0,.slice none 0 0,iV 0,iV 0,iV 0,.string ⟨#[]⟩,iV 0,.slice none 0 0,iV 0,iV 0,iV 0,.string ⟨#[]⟩,iV 0,.slice none 0 0,iV 0,iV 0,iV 0,.string ⟨#[]⟩,iV 0,.slice none 0 0,iV 0,iV 0,iV 0,.string ⟨#[]⟩,iV 0,.slice none 0 0,iV 0,iV 0,iV 0,.string ⟨#[]⟩,iV 0,.slice none 0 0] 51)):=(yg _ _).alloc (yf _) _
   have p:B < w'.heap.size:=yr q (m.o.one i.o).size
   exact ⟨_,rfl,m.o.quiet i.o (by decide) k,Gc.below k,w'.heap.size,rfl,p,World.alloc_heap_new _ _⟩
  |17,_=>
   have c:f.getD 38 false=false:=by
    rw[yj];intro h6
    have:=A3 hM.down 40 38 17 (by kernel_rfl) h6
    rw[hM.not_yet g] at this;cases this
   have i:=yb c
   clear c
   obtain rfl:=yh n
   go_simp
   exact ⟨_,rfl,m.o.quiet i.o (by decide) (yg _ _),Gc.refl _ _,rfl⟩
  |18,_=>
   have c:f.getD 38 false=false:=by
    rw[yj];intro h6
    have:=A3 hM.down 40 38 18 (by kernel_rfl) h6
    rw[hM.not_yet g] at this;cases this
   have i:=yb c
   clear c
   obtain rfl:=yh n
   go_simp
   exact ⟨_,rfl,m.o.quiet i.o (by decide) (yg _ _),Gc.refl _ _,rfl⟩
  |19,_=>
   have c:f.getD 38 false=false:=by
    rw[yj];intro h6
    have:=A3 hM.down 40 38 19 (by kernel_rfl) h6
    rw[hM.not_yet g] at this;cases this
   have i:=yb c
   clear c
   have ag:=hM.dep g 17 25 (by kernel_rfl) (by kernel_rfl)
   unfold AI at ag
   simp only at ag
   have aj:=hM.dep g 18 26 (by kernel_rfl) (by kernel_rfl)
   unfold AI at aj
   simp only at aj
   obtain rfl:=yh n
   go_simp
   exact ⟨_,rfl,m.o.quiet i.o (by decide) (yg _ _),Gc.refl _ _,rfl⟩
  |20,_=>
   have c:f.getD 38 false=false:=by
    rw[yj];intro h6
    have:=A3 hM.down 40 38 20 (by kernel_rfl) h6
    rw[hM.not_yet g] at this;cases this
   have i:=yb c
   clear c
   obtain rfl:=yh n
   go_simp
   exact ⟨_,rfl,m.o.quiet i.o (by decide) (yg _ _),Gc.refl _ _,rfl⟩
  |21,_=>
   have c:f.getD 38 false=false:=by
    rw[yj];intro h6
    have:=A3 hM.down 40 38 21 (by kernel_rfl) h6
    rw[hM.not_yet g] at this;cases this
   have i:=yb c
   clear c
   have aq:=hM.dep g 20 28 (by kernel_rfl) (by kernel_rfl)
   unfold AI at aq
   simp only at aq
   obtain rfl:=yh n
   go_simp
   exact ⟨_,rfl,m.o.quiet i.o (by decide) (yg _ _),Gc.refl _ _,rfl⟩
  |22,_=>
   have c:f.getD 38 false=false:=by
    rw[yj];intro h6
    have:=A3 hM.down 40 38 22 (by kernel_rfl) h6
    rw[hM.not_yet g] at this;cases this
   have i:=yb c
   clear c
   have ap:=hM.dep g 19 27 (by kernel_rfl) (by kernel_rfl)
   unfold AI at ap
   simp only at ap
   have ai:=hM.dep g 21 29 (by kernel_rfl) (by kernel_rfl)
   unfold AI at ai
   simp only at ai
   obtain rfl:=yh n
   go_simp
   have k:Below w'.heap.size w' (w'.alloc (.cells #[.string ⟨#[97,110,97]⟩,.string ⟨#[116,97,105,108]⟩,iV 0,.bool false,iV 0,iV 0,iV 0,.string ⟨#[]⟩,iV 0,.slice none 0 0,.string ⟨#[114,105,99,101]⟩,iV 0,.string ⟨#[98,101,97]⟩,.string ⟨#[104,101,97,100]⟩,iV 0,.bool true,iV 0,iV 0,iV 0,.string ⟨#[]⟩,iV 0,.slice none 0 0,.string ⟨#[]⟩,iV 0] 59)):=(yg _ _).alloc (yf _) _
   have p:B < w'.heap.size:=yr q (m.o.one i.o).size
   exact ⟨_,rfl,m.o.quiet i.o (by decide) k,Gc.below k,w'.heap.size,rfl,p,World.alloc_heap_new _ _⟩
  |23,_=>
   have c:f.getD 38 false=false:=by
    rw[yj];intro h6
    have:=A3 hM.down 40 38 23 (by kernel_rfl) h6
    rw[hM.not_yet g] at this;cases this
   have i:=yb c
   clear c
   obtain rfl:=yh n
   go_simp
   exact ⟨_,rfl,m.o.quiet i.o (by decide) (yg _ _),Gc.refl _ _,rfl⟩
  |24,_=>
   have c:f.getD 38 false=false:=by
    rw[yj];intro h6
    have:=A3 hM.down 40 38 24 (by kernel_rfl) h6
    rw[hM.not_yet g] at this;cases this
   have i:=yb c
   clear c
   obtain rfl:=yh n
   go_simp
   exact ⟨_,rfl,m.o.quiet i.o (by decide) (yg _ _),Gc.refl _ _,rfl⟩
  |25,_=>
   have c:f.getD 38 false=false:=by
    rw[yj];intro h6
    have:=A3 hM.down 40 38 25 (by kernel_rfl) h6
    rw[hM.not_yet g] at this;cases this
   have i:=yb c
   clear c
   have Z:=hM.dep g 24 32 (by kernel_rfl) (by kernel_rfl)
   unfold AI at Z
   simp only at Z
   obtain rfl:=yh n
   go_simp
   exact ⟨_,rfl,m.o.quiet i.o (by decide) (yg _ _),Gc.refl _ _,rfl⟩
  |26,_=>
   have c:f.getD 38 false=false:=by
    rw[yj];intro h6
    have:=A3 hM.down 40 38 26 (by kernel_rfl) h6
    rw[hM.not_yet g] at this;cases this
   have i:=yb c
   clear c
   have b4:=hM.dep g 25 33 (by kernel_rfl) (by kernel_rfl)
   unfold AI at b4
   simp only at b4
   obtain rfl:=yh n
   go_simp
   have k:Below w'.heap.size w' (w'.alloc (.cells #[.string ⟨#[97,110,97]⟩,iV 0,iV 0,iV 0,iV 0,.string ⟨#[]⟩,iV 0,.slice none 0 0] 66)):=(yg _ _).alloc (yf _) _
   have p:B < w'.heap.size:=yr q (m.o.one i.o).size
   exact ⟨_,rfl,m.o.quiet i.o (by decide) k,Gc.below k,w'.heap.size,rfl,p,World.alloc_heap_new _ _⟩
  |27,_=>
   have c:f.getD 38 false=false:=by
    rw[yj];intro h6
    have:=A3 hM.down 40 38 27 (by kernel_rfl) h6
    rw[hM.not_yet g] at this;cases this
   have i:=yb c
   clear c
   have ao:=hM.dep g 23 31 (by kernel_rfl) (by kernel_rfl)
   unfold AI at ao
   simp only at ao
   have I:=hM.dep g 26 34 (by kernel_rfl) (by kernel_rfl)
   unfold AI at I
   simp only at I
   obtain ⟨z,I,x⟩:=I
   have C:=yb x
   clear x
   obtain rfl:=yh n
   go_simp
   exact ⟨_,rfl,m.o.quiet i.o (by decide) (yg _ _),Gc.refl _ _,z,rfl,C.o⟩
  |28,_=>
   have c:f.getD 38 false=false:=by
    rw[yj];intro h6
    have:=A3 hM.down 40 38 28 (by kernel_rfl) h6
    rw[hM.not_yet g] at this;cases this
   have i:=yb c
   clear c
   have H:=hM.dep g 27 35 (by kernel_rfl) (by kernel_rfl)
   unfold AI at H
   simp only at H
   obtain ⟨z,H,x⟩:=H
   have C:=yb x
   clear x
   obtain rfl:=yh n
   go_simp
   have k:Below w'.heap.size w' (w'.alloc (.cells #[.string ⟨#[116,117,114,110,115]⟩,.string ⟨#[116,97,105,108]⟩,iV 0,iV 0,iV 0,iV 0,iV 0,.string ⟨#[]⟩,iV 0,.slice none 0 0,iV 0,iV 0,iV 0,.string ⟨#[]⟩,iV 0,.slice none 0 0,iV 0,iV 0,iV 0,.string ⟨#[]⟩,iV 0,.slice none 0 0,.slice (some (aV z 0)) 1 1] 64)):=(yg _ _).alloc (yf _) _
   have p:B < w'.heap.size:=yr q (m.o.one i.o).size
   exact ⟨_,rfl,m.o.quiet i.o (by decide) k,Gc.below k,z,w'.heap.size,rfl,C.o.le (Gc.below k),p,World.alloc_heap_new _ _⟩
  |29,_=>
   have c:f.getD 38 false=false:=by
    rw[yj];intro h6
    have:=A3 hM.down 40 38 29 (by kernel_rfl) h6
    rw[hM.not_yet g] at this;cases this
   have i:=yb c
   clear c
   obtain rfl:=yh n
   go_simp
   exact ⟨_,rfl,m.o.quiet i.o (by decide) (yg _ _),Gc.refl _ _,rfl⟩
  |30,_=>
   have c:f.getD 38 false=false:=by
    rw[yj];intro h6
    have:=A3 hM.down 40 38 30 (by kernel_rfl) h6
    rw[hM.not_yet g] at this;cases this
   have i:=yb c
   clear c
   obtain rfl:=yh n
   go_simp
   exact ⟨_,rfl,m.o.quiet i.o (by decide) (yg _ _),Gc.refl _ _,rfl⟩
  |31,_=>
   have c:f.getD 38 false=false:=by
    rw[yj];intro h6
    have:=A3 hM.down 40 38 31 (by kernel_rfl) h6
    rw[hM.not_yet g] at this;cases this
   have i:=yb c
   clear c
   have X:=hM.dep g 29 37 (by kernel_rfl) (by kernel_rfl)
   unfold AI at X
   simp only at X
   have av:=hM.dep g 30 38 (by kernel_rfl) (by kernel_rfl)
   unfold AI at av
   simp only at av
   obtain rfl:=yh n
   go_simp
   exact ⟨_,rfl,m.o.quiet i.o (by decide) (yg _ _),Gc.refl _ _,rfl⟩
  |32,_=>
   have c:f.getD 38 false=false:=by
    rw[yj];intro h6
    have:=A3 hM.down 40 38 32 (by kernel_rfl) h6
    rw[hM.not_yet g] at this;cases this
   have i:=yb c
   clear c
   have ae:=hM.dep g 31 39 (by kernel_rfl) (by kernel_rfl)
   unfold AI at ae
   simp only at ae
   obtain rfl:=yh n
   go_simp
   have k:Below w'.heap.size w' (w'.alloc (.cells #[iV 2,.string ⟨#[109,105,110,101]⟩,.string ⟨#[98,101,97]⟩,iV 0,.string ⟨#[116,97,105,108]⟩,iV 0,iV 0,iV 0,iV 0,iV 0,.string ⟨#[]⟩,iV 0,.slice none 0 0,iV 0,iV 0,iV 0,.string ⟨#[]⟩,iV 0,.slice none 0 0,iV 0,iV 0,iV 0,.string ⟨#[]⟩,iV 0,.slice none 0 0,iV 0,iV 0,iV 0,.string ⟨#[]⟩,iV 0,.slice none 0 0,iV 0,iV 0,iV 0,.string ⟨#[]⟩,iV 0,.slice none 0 0] 68)):=(yg _ _).alloc (yf _) _
   have p:B < w'.heap.size:=yr q (m.o.one i.o).size
   exact ⟨_,rfl,m.o.quiet i.o (by decide) k,Gc.below k,w'.heap.size,rfl,p,World.alloc_heap_new _ _⟩
  |33,_=>
   have c:f.getD 38 false=false:=by
    rw[yj];intro h6
    have:=A3 hM.down 40 38 33 (by kernel_rfl) h6
    rw[hM.not_yet g] at this;cases this
   have i:=yb c
   clear c
   obtain rfl:=yh n
   go_simp
   exact ⟨_,rfl,m.o.quiet i.o (by decide) (yg _ _),Gc.refl _ _,rfl⟩
  |34,_=>
   have c:f.getD 38 false=false:=by
    rw[yj];intro h6
    have:=A3 hM.down 40 38 34 (by kernel_rfl) h6
    rw[hM.not_yet g] at this;cases this
   have i:=yb c
   clear c
   obtain rfl:=yh n
   go_simp
   exact ⟨_,rfl,m.o.quiet i.o (by decide) (yg _ _),Gc.refl _ _,rfl⟩
  |35,_=>
   have c:f.getD 38 false=false:=by
    rw[yj];intro h6
    have:=A3 hM.down 40 38 35 (by kernel_rfl) h6
    rw[hM.not_yet g] at this;cases this
   have i:=yb c
   clear c
   have a1:=hM.dep g 33 41 (by kernel_rfl) (by kernel_rfl)
   unfold AI at a1
   simp only at a1
   have b5:=hM.dep g 34 42 (by kernel_rfl) (by kernel_rfl)
   unfold AI at b5
   simp only at b5
   obtain rfl:=yh n
   go_simp
   exact ⟨_,rfl,m.o.quiet i.o (by decide) (yg _ _),Gc.refl _ _,rfl⟩
  |36,_=>
   have c:f.getD 38 false=false:=by
    rw[yj];intro h6
    have:=A3 hM.down 40 38 36 (by kernel_rfl) h6
    rw[hM.not_yet g] at this;cases this
   have i:=yb c
   clear c
   have al:=hM.dep g 35 43 (by kernel_rfl) (by kernel_rfl)
   unfold AI at al
   simp only at al
   obtain rfl:=yh n
   go_simp
   have k:Below w'.heap.size w' (w'.alloc (.cells #[.string ⟨#[99,108,101,97,110]⟩,.string ⟨#[98,101,97]⟩,iV 0,.string ⟨#[116,97,105,108]⟩,iV 0,iV 0,iV 0,iV 0,.string ⟨#[]⟩,iV 0,.slice none 0 0] 70)):=(yg _ _).alloc (yf _) _
   have p:B < w'.heap.size:=yr q (m.o.one i.o).size
   exact ⟨_,rfl,m.o.quiet i.o (by decide) k,Gc.below k,w'.heap.size,rfl,p,World.alloc_heap_new _ _⟩
  |37,_=>
   have c:f.getD 38 false=false:=by
    rw[yj];intro h6
    have:=A3 hM.down 40 38 37 (by kernel_rfl) h6
    rw[hM.not_yet g] at this;cases this
   have i:=yb c
   clear c
   have d8:=hM.dep g 0 8 (by kernel_rfl) (by kernel_rfl)
   unfold AI at d8
   simp only at d8
   have D:=hM.dep g 9 17 (by kernel_rfl) (by kernel_rfl)
   unfold AI at D
   simp only at D
   obtain ⟨s,an,D,r,a7⟩:=D
   have P:=hM.dep g 12 20 (by kernel_rfl) (by kernel_rfl)
   unfold AI at P
   simp only at P
   obtain ⟨W,P,am⟩:=P
   have L:=hM.dep g 16 24 (by kernel_rfl) (by kernel_rfl)
   unfold AI at L
   simp only at L
   obtain ⟨a6,L,a8⟩:=L
   have F:=hM.dep g 22 30 (by kernel_rfl) (by kernel_rfl)
   unfold AI at F
   simp only at F
   obtain ⟨ac,F,ak⟩:=F
   have G:=hM.dep g 28 36 (by kernel_rfl) (by kernel_rfl)
   unfold AI at G
   simp only at G
   obtain ⟨z,aa,G,x,Y⟩:=G
   have N:=hM.dep g 32 40 (by kernel_rfl) (by kernel_rfl)
   unfold AI at N
   simp only at N
   obtain ⟨ay,N,b9⟩:=N
   have M:=hM.dep g 36 44 (by kernel_rfl) (by kernel_rfl)
   unfold AI at M
   simp only at M
   obtain ⟨a2,M,U⟩:=M
   have y:=yb r;have bj:=yb a7;have bp:=yb am;have bt:=yb a8;have bd:=yb ak;have C:=yb x;have be:=yb Y;have bg:=yb b9;have bo:=yb U
   clear r a7 am a8 ak x Y b9 U
   obtain rfl:=yh n
   go_simp
   exact ⟨_,rfl,m.o.quiet i.o (by decide) (yg _ _),Gc.refl _ _,s,an,W,a6,ac,z,aa,ay,a2,rfl,y.o,bj.o,bp.o,bt.o,bd.o,C.o,be.o,bg.o,bo.o⟩
  |38,_=>
   have d:=hM.old g 0 (by kernel_rfl) _ bq
   have c:=hM.not_yet g
   have A:=hM.dep g 37 45 (by kernel_rfl) (by kernel_rfl)
   have HP:=yb A
   obtain ⟨cells,ba,b3,dv⟩:∃cells:Array Value,cells.size=26∧cells.all (·.oneCell')=true∧a.tmps[45]?.getD undef=.agg cells:=by
    unfold AI at A
    simp only at A
    obtain ⟨s,an,W,a6,ac,z,aa,ay,a2,A,_⟩:=A
    exact ⟨_,rfl,by simp[Value.oneCell'],A⟩
   have hb:=m.o.one c
   have bi:w'.heap[B]?=some (.cells row0 35 (0,0)):=(hb.block B q).trans S
   have HL:Hid (38 < f.size):=yb (by rw[bu];show 38 < 39;omega)
   refine wp_store_row 35 (.tmp 0) (.tmp 45) (by obtain rfl:=yh n;rfl) B cells (by simpa[Act.eval] using d) (by simpa[Act.eval] using dv) 35 row0 bi (by rw[ba];kernel_rfl) (by rw[ba];exact E) b3 ?_
   obtain rfl:=yh n
   refine ⟨undef,rfl,⟨fun h6=>?_,fun _=>⟨w',cells,?_,hb,rfl⟩⟩,fun b o bw bm=>?_,trivial⟩
   ·simp[HL.o] at h6
   ·rw[<-dv];exact HP.o
   ·rw[Dq _ _ (by omega)];exact bm
 ·intro f a w' V hM
  obtain ⟨w1,cells,hp,hb,rfl⟩:=hM.ext.two (V 38 (show 38 < 39 by omega))
  exact hQ a w1 cells (hM.tmps.trans hz) hM.defers (FQ (lo:=8) (hi:=45) (by kernel_rfl) hM) hp hb
end Go.Proofs.Ytghepahgkcigpaa
