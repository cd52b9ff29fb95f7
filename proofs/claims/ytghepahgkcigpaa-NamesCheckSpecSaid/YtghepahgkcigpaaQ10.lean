/- Resolve: the range over the references, and the end (printed by gen_rh.py). -/
import Derived.Test.YtghepahgkcigpaaQ0
import Derived.Test.YtghepahgkcigpaaQ8
import Derived.BigFrameIn
set_option maxRecDepth 100000
set_option maxHeartbeats 16000000
set_option linter.unusedSimpArgs false
namespace Go.Proofs.Ytghepahgkcigpaa
open Go.RowKit
attribute [local go_sem] Oper.semAt_some
theorem PX{s:ByteArray}(h:s.toList=[]):s=⟨#[]⟩:=by
 have h1:=(Dg s).2 h
 have:s.data.size=0:=h1
 cases s with
 |mk d=>simp only at this;rw[Array.size_eq_zero_iff] at this;rw[this]
theorem Up{l:LB}{s:ByteArray}{i:Nat}(h:B9 l s=some i):i < l.length:=by
 by_cases a:s∈l
 ·obtain ⟨j,h1,h2,_⟩:=Ku a
  rw[h] at h1
  cases h1;exact h2
 ·rw[Ic a] at h;cases h
theorem Hu{t:Tb}{to at_:Int}{r:Rf}(h0:to≠0)(h:Ig t to at_ r=true):∃i:Nat,B9 (t.Xo (Ds to)) r.name=some i∧GH t (Ds to) r.name=i∧(early to=true->(i:Int) < at_)∧i < (t.Xo (Ds to)).length:=by
 unfold Ig at h
 rw[yq h0] at h
 unfold GH
 cases a:B9 (t.Xo (Ds to)) r.name with
 |none=>rw[a] at h;cases h
 |some i=>
  rw[a] at h
  refine ⟨i,rfl,rfl,fun b=>?_,Up a⟩
  simpa[b] using h
theorem Hv{t:Tb}{to at_:Int}{r:Rf}(h0:to≠0)(h:Ig t to at_ r=false):∀i:Nat,B9 (t.Xo (Ds to)) r.name=some i->early to=true∧¬ (i:Int) < at_:=by
 intro i a
 unfold Ig at h
 rw[yq h0,a] at h
 simp only[Bool.or_eq_false_iff,Bool.not_eq_false',xz] at h
 exact h
theorem GR{m:Nat}{W:World}{es:Array MapEntry}{a:Nat}(h:W.heap[m]?=some (.map es a))(ty:TypeId):(Builtin.len_ #[90] ty #[.map (some m)]).run Try.prog W=.ok (.int .i64 (es.size:Int)) W:=by
 simp[Builtin.len_,run_underlying j2,MapKept.run_getObj_map h,goInt,Result.andThen]
theorem WI{Q:QT}{w W W5:World}{x:AA}{L:BL}{N M:NP}{bl bc br bf Bf:Nat}(hQ:M9 Q w x)(hC:Js w x W5 L N M bl bc br bf Bf W.heap.size)
 (gj:RJ w.heap.size W5 (Tb.of x) (Dt W5 L x) (G2 L x).length (fun _=>False) (W.alloc (.cells #[.pointer (some ⟨w.heap.size+1,0,none⟩)] 52)))
 (u0 u1 u8 u9 eq fg e7 fv hy gd gr f7 e3 dq fh g3 ee g4 gb dt gm ei ec gu g9 fy gg f6 fc dj gk eu ed ge ek fe g5 dn el eg fa fb gs e5 eo fw fj ej fk f5 ft et dv gt ey gv fm f4 gn ep fo gl fs gc du em g2 gp g7 f8 ef e6 ez dy dp go g8 gi gq fi f9 fd ff ga f0 ea fx dw fu e8 dl e4 dk cx bp bn d7 bu bk b9 cg cy cj bb ao co cb b3 gy fp bz bh bd ci da be bv bw bt cn cd d8 b4 c8 b7 c7 cv ay aw ba bq au d9 ca av bg cq ce ar cc c9 bi b8 bo d5 d3 bm aq ck cu cw az db d6 c4 cp cr bj cl bs cm b5 cz ct ax d4 c6:Value):
  I3 11 Try.prog (DM 20 (Try.f11.body.getD .skip)) Q {tmps:=#[u0,u1,.pointer (some ⟨w.heap.size+1,0,none⟩),.pointer (some ⟨w.heap.size+2,0,none⟩),.pointer (some ⟨bl,0,none⟩),.pointer (some ⟨bc,0,none⟩),.pointer (some ⟨br,0,none⟩),.pointer (some ⟨bf,0,none⟩),u8,u9,eq,fg,e7,.pointer (some ⟨Bf,0,none⟩),fv,hy,gd,gr,f7,e3,dq,fh,g3,ee,g4,gb,dt,gm,ei,ec,gu,g9,fy,gg,f6,fc,dj,gk,eu,ed,ge,ek,fe,g5,dn,el,eg,fa,fb,gs,e5,eo,fw,fj,ej,fk,f5,ft,et,dv,gt,ey,gv,fm,f4,gn,ep,fo,gl,fs,gc,du,em,g2,gp,g7,f8,ef,e6,ez,dy,dp,go,g8,gi,gq,fi,f9,fd,ff,ga,f0,ea,fx,dw,fu,e8,dl,e4,dk,cx,bp,bn,d7,bu,bk,b9,cg,cy,cj,bb,ao,co,cb,b3,gy,fp,bz,bh,bd,ci,da,be,bv,bw,bt,cn,cd,d8,b4,c8,b7,c7,cv,ay,aw,ba,bq,au,d9,ca,av,bg,cq,ce,ar,cc,c9,bi,b8,bo,d5,d3,bm,aq,ck,cu,cw,az,db,d6,c4,cp,cr,bj,cl,bs,cm,b5,cz,ct,ax,d4,c6],defers:=[Kw w.heap.size]} W:=by
 have HQ:=ya hQ;have r:=ya hC;have ai:=ya gj
 clear hQ hC gj
 unfold Kw
 refine Aq (Aq (Af ?_))
 go_wp2_with (first|(go_at_call 51;refine (Ma _ _).mono ?_;rintro e w2 ⟨rfl,rfl⟩))
 refine F9 ?_
 refine EF (n:=10) Try.func11 rfl (fun _ _=>rfl) (LW 9 (by omega) r.o.Xw) (fun a ha=>by
   obtain ⟨u,_,rfl⟩:=xH.1 ha
   rfl)
  (fun k O V=>RJ w.heap.size W5 (Tb.of x) (Dt W5 L x) ((G2 L x).length+k) O V) (fun _ _ _=>False) (fun ch O V=>ch=Fx 170∧AK x=170∧∃k,RJ w.heap.size W5 (Tb.of x) (Dt W5 L x) k O V)
  (fun k a O V=>RJ w.heap.size W5 (Tb.of x) (Dt W5 L x) ((G2 L x).length+k) O V∧∃(ub uo:Nat) (f c:Int) (d:ByteArray) (s:Int) (g:Nat),(CG W5 L x).1[k]?=some ⟨ub,uo,f,c,d,s⟩∧¬ O g∧g < V.heap.size∧V.heap[g]?=some (.cells #[pV ub uo,iV f,iV c] 106 (0,0))∧a={tmps:=#[u0,u1,pV (w.heap.size+1) 0,pV (w.heap.size+2) 0,pV bl 0,pV bc 0,pV br 0,pV bf 0,u8,u9,eq,fg,e7,pV Bf 0,fv,pV g 0,gd,gr,f7,e3,dq,fh,g3,ee,g4,gb,dt,gm,ei,ec,gu,g9,fy,gg,f6,fc,dj,gk,eu,ed,ge,ek,fe,g5,dn,el,eg,fa,fb,gs,e5,eo,fw,fj,ej,fk,f5,ft,et,dv,gt,ey,gv,fm,f4,gn,ep,fo,gl,fs,gc,du,em,g2,gp,g7,f8,ef,e6,ez,dy,dp,go,g8,gi,gq,fi,f9,fd,ff,ga,f0,ea,fx,dw,fu,e8,dl,e4,dk,cx,bp,bn,d7,bu,bk,b9,cg,cy,cj,bb,ao,co,cb,b3,.func (.func 81) #[] #[pV W.heap.size 0],.agg #[pV ub uo,iV f,iV c],bz,bh,bd,ci,da,be,bv,bw,bt,cn,cd,d8,b4,c8,b7,c7,cv,ay,aw,ba,bq,au,d9,ca,av,bg,cq,ce,ar,cc,c9,bi,b8,bo,d5,d3,bm,aq,ck,cu,cw,az,db,d6,c4,cp,cr,bj,cl,bs,cm,b5,cz,ct,ax,d4,c6],defers:=[]})
  (fun k=>RJ.stays _) (fun _ _ _ _ _ _ h=>h.elim) ?_ ?_ (fun k O V h=>h.hd) (fun _ _ _ h=>h.elim) ?_ ai.o ?_ ?_ ?_ (fun _ _ _ _ _ _ h=>h.elim) ?_
 ·exact fun ch _ O V O' V' h hz ho ht hu hk hO=>⟨h.1,h.2.1,h.2.2.imp fun k h=>RJ.stays k O V O' V' h hz ho ht hu hk hO⟩
 ·rintro a k O V O' V' ⟨h1,ub,uo,f,c,d,s,g,h2,h3,h4,h5,h6⟩ hz ho ht hu hk hO
  exact ⟨RJ.stays _ O V O' V' h1 hz ho ht hu hk hO,ub,uo,f,c,d,s,g,h2,fun h=>(hO g h).elim h3 (fun h=>by omega),by omega,(hk g h3 h4).trans h5,h6⟩
 ·intro ch Z O V H
  cases hx:(CG W5 L x).2 with
  |true=>rw[hx] at Z;cases Z
  |false=>
   rw[hx] at Z
   cases Z
   exact ⟨rfl,r.o.XK hx,_,H⟩
 ·intro k hk O V lo H hO hl ac
  have e9:k < (CG W5 L x).1.length:=by rw[yI] at hk;exact hk
  rw[xf]
  have HU:=ya (yl e9)
  generalize (CG W5 L x).1[k]=u at HU ⊢
  obtain ⟨ub,uo,f,c,d,s⟩:=u
  have R:=ya H;have dh:=ya ac
  clear H hO hl ac hk e9
  unfold Us.v
  simp only
  gi_wp2
  have dd:Cd O V (V.alloc (.cells #[pV ub uo,iV f,iV c] 106)):=⟨by simp,fun b hb=>yT _ _ _ (dh.o b hb)⟩
  have a2:RJ w.heap.size W5 (Tb.of x) (Dt W5 L x) ((G2 L x).length+k) O (V.alloc (.cells #[pV ub uo,iV f,iV c] 106)):=R.o.below ((yc V.heap.size V).alloc (ye _) _) R.o.size
  have a8:¬ O V.heap.size:=fun h=>Nat.lt_irrefl _ (dh.o _ h)
  first
  |exact ⟨dd,a2,ub,uo,f,c,d,s,V.heap.size,HU.o,a8,by simp,World.alloc_heap_new _ _,rfl⟩
  |(rename_i hK;exact hK _ _ ⟨dd,a2,ub,uo,f,c,d,s,V.heap.size,HU.o,a8,by simp,World.alloc_heap_new _ _,rfl⟩)
  |(rename_i hK _;exact hK _ _ ⟨dd,a2,ub,uo,f,c,d,s,V.heap.size,HU.o,a8,by simp,World.alloc_heap_new _ _,rfl⟩)
  |fail
 ·rintro k hk O V lo a1 hl en ac ⟨H,ub,uo,f,c,d,s,g,hu,i2,h9,am,rfl⟩
  have hX:(Dt W5 L x)[(G2 L x).length+k]?=some ⟨ub,uo,f,c,d,s⟩:=by
   unfold Dt
   rw[yJ (by omega),xW];exact hu
  have ab:(⟨ub,uo,f,c,d,s⟩:Us)∈Dt W5 L x:=xv hX
  have Y:=r.o.Xx _ ab
  obtain ⟨c0,⟨z,c1,ew⟩,cf⟩:=H.read Y
  have hf:f=0∨f=1∨f=2∨f=3∨f=4∨f=5:=by
   have h6:=Vg _ (xv hu)
   have h7:=Y.to
   simp only at h6 h7
   omega
  have d0:V.cell? (aV g 0)=some (pV ub uo):=by simp[World.cell?,am]
  have d1:V.cell? (aV g 1)=some (iV f):=by simp[World.cell?,am]
  have d2:V.cell? (aV g 2)=some (iV c):=by simp[World.cell?,am]
  have hq:V.cell? (aV Bf 0)=some (.func (.func 49) #[] #[]):=Md r.o.find (by simp) (Jh (by decide)) H
  obtain ⟨ml,ag,i7,aj,g0,X,eb⟩:=r.o.lets.read H
  obtain ⟨mc,af,i6,aa,gf,J,eh⟩:=r.o.crops.read H
  obtain ⟨mr,al,ib,a7,fl,P,gh⟩:=r.o.reaches.read H
  obtain ⟨mf,ah,i8,ad,gx,K,dx⟩:=r.o.farms.read H
  have HX:=ya hX;have F:=ya ab;have ia:=ya Y;have R:=ya H;have A:=ya c1;have E:=ya cf;have l:=ya c0;have hm:=ya ew;have dh:=ya ac
  have ML:=ya g0;have MC:=ya gf;have MR:=ya fl;have MF:=ya gx
  have SL:=ya eb;have SC:=ya eh;have SR:=ya gh;have SF:=ya dx
  have m:Hid (d.size<=maxLen):=ya Y.len
  have B:Hid (∀v,Cd O V (V.setCell (aV ub (uo+1)) v)):=ya (fun v=>⟨by simp,fun b hb=>zf V (aV ub (uo+1)) b v (fun e=>by
   have h1:=H.own b hb
   have h2:=Y.lt
   simp only at e h2
   omega)⟩)
  clear hX ab Y H c1 cf c0 ew ac g0 gf fl gx eb eh gh dx hu i2 h9 am hl en hk
  rcases hf with rfl|rfl|rfl|rfl|rfl|rfl
  ·have c0:=l.o;have c1:=A.o
   obtain rfl:=hm.o rfl
   clear aj X aa J a7 P ad K d2 hq
   cases hb:Kv (Tb.of x) ⟨ub,uo,0,c,d,z⟩ with
   |true=>
    have U:=ya hb
    obtain ⟨g6,hr⟩:d.size=0∧z=0:=by
     have h:=hb
     unfold Kv Ig at h
     simpa using h
    have i1:d=⟨#[]⟩:=by
     have h:=(Dg d).1 g6
     exact PX h
    clear hb g6
    subst hr
    subst i1
    gi_wp2_with fail
    refine ⟨trivial,zm (CallsIn.inRound lo (za.2 (Df _ _))) ?_⟩
    rintro e w4 ⟨rfl,q⟩
    obtain rfl:=q.symm
    gi_wp2_with fail
    exact ⟨Cd.refl _ _,R.o.skip HX.o rfl U.o⟩
   |false=>
    have U:=ya hb
    have f2:¬ (d.size=0∧z=0):=by
     have h:=hb
     unfold Kv Ig at h
     simpa using h
    clear hb
    have j:=ya (r.o.bad F.o U.o)
    have hg:=ya f2
    clear f2
    gi_wp2_with fail
    all_goals first
     |exact absurd ⟨(Dg _).2 (by assumption),(by assumption)⟩ hg.o
     |(refine ⟨trivial,zm (CallsIn.inRound lo (za.2 (D7 _ _))) ?_⟩
       rintro e w4 ⟨rfl,q⟩
       obtain rfl:=q.symm
       try gi_wp2_with fail
       exact ⟨rfl,Cd.refl _ _,rfl,j.o,_,R.o⟩)
  ·have c0:=l.o;have c1:=A.o;have cf:=E.o
   clear aa J a7 P ad K d2 c0 c1 cf
   cases hb:Kv (Tb.of x) ⟨ub,uo,1,c,d,s⟩ with
   |true=>
    obtain ⟨i,t,I,C,p⟩:=Hu (to:=1) (by decide) hb
    have U:=ya hb;have HV:=ya I
    have G:=ya (Hl (most:=(ag.size:Int)) l.o A.o E.o ML.o m.o t (by rw[SL.o];exact Int.ofNat_lt.2 p))
    clear hb t I C p
    have y:∀ty,(Builtin.len_ #[90] ty #[.map (some ml)]).run Try.prog V=.ok (iV (ag.size:Int)) V:=fun ty=>GR X ty
    gi_wp2_with fail
    refine ⟨trivial,zm (CallsIn.inRound lo (za.2 G.o)) ?_⟩
    rintro e w4 ⟨rfl,rfl⟩
    gi_wp2_with fail
    exact ⟨B.o _,by have h:=R.o.next r.o.Xx HX.o (show (1:Int)≠0 by decide) U.o;rw[show GH (Tb.of x) (Ds (⟨ub,uo,1,c,d,s⟩:Us).to) (⟨ub,uo,1,c,d,s⟩:Us).name=_ from HV.o] at h;exact h⟩
   |false=>
    have S:=Hv (to:=1) (by decide) hb
    have j:=ya (r.o.bad F.o hb)
    have G:=ya (Je (most:=(ag.size:Int)) l.o ML.o m.o (fun i t=>absurd (S i t).1 (show ¬ early 1=true by decide)))
    clear hb S
    have y:∀ty,(Builtin.len_ #[90] ty #[.map (some ml)]).run Try.prog V=.ok (iV (ag.size:Int)) V:=fun ty=>GR X ty
    gi_wp2_with fail
    refine ⟨trivial,zm (CallsIn.inRound lo (za.2 G.o)) ?_⟩
    rintro e w4 ⟨rfl,q⟩
    obtain rfl:=q.symm
    try gi_wp2_with fail
    exact ⟨rfl,Cd.refl _ _,rfl,j.o,_,R.o⟩
  ·have c0:=l.o;have c1:=A.o;have cf:=E.o
   clear aa J a7 P ad K c0 c1 cf
   cases hb:Kv (Tb.of x) ⟨ub,uo,2,c,d,s⟩ with
   |true=>
    obtain ⟨i,t,I,C,p⟩:=Hu (to:=2) (by decide) hb
    have U:=ya hb;have HV:=ya I
    have G:=ya (Hl (most:=c) l.o A.o E.o ML.o m.o t (by simpa using C rfl))
    clear hb t I C p
    gi_wp2_with fail
    refine ⟨trivial,zm (CallsIn.inRound lo (za.2 G.o)) ?_⟩
    rintro e w4 ⟨rfl,rfl⟩
    gi_wp2_with fail
    exact ⟨B.o _,by have h:=R.o.next r.o.Xx HX.o (show (2:Int)≠0 by decide) U.o;rw[show GH (Tb.of x) (Ds (⟨ub,uo,2,c,d,s⟩:Us).to) (⟨ub,uo,2,c,d,s⟩:Us).name=_ from HV.o] at h;exact h⟩
   |false=>
    have S:=Hv (to:=2) (by decide) hb
    have j:=ya (r.o.bad F.o hb)
    have G:=ya (Je (most:=c) l.o ML.o m.o (fun i t=>(S i t).2))
    clear hb S
    gi_wp2_with fail
    refine ⟨trivial,zm (CallsIn.inRound lo (za.2 G.o)) ?_⟩
    rintro e w4 ⟨rfl,q⟩
    obtain rfl:=q.symm
    try gi_wp2_with fail
    exact ⟨rfl,Cd.refl _ _,rfl,j.o,_,R.o⟩
  ·have c0:=l.o;have c1:=A.o;have cf:=E.o
   clear aj X a7 P ad K d2 c0 c1 cf
   cases hb:Kv (Tb.of x) ⟨ub,uo,3,c,d,s⟩ with
   |true=>
    obtain ⟨i,t,I,C,p⟩:=Hu (to:=3) (by decide) hb
    have U:=ya hb;have HV:=ya I
    have G:=ya (Hl (most:=(af.size:Int)) l.o A.o E.o MC.o m.o t (by rw[SC.o];exact Int.ofNat_lt.2 p))
    clear hb t I C p
    have y:∀ty,(Builtin.len_ #[90] ty #[.map (some mc)]).run Try.prog V=.ok (iV (af.size:Int)) V:=fun ty=>GR J ty
    gi_wp2_with fail
    refine ⟨trivial,zm (CallsIn.inRound lo (za.2 G.o)) ?_⟩
    rintro e w4 ⟨rfl,rfl⟩
    gi_wp2_with fail
    exact ⟨B.o _,by have h:=R.o.next r.o.Xx HX.o (show (3:Int)≠0 by decide) U.o;rw[show GH (Tb.of x) (Ds (⟨ub,uo,3,c,d,s⟩:Us).to) (⟨ub,uo,3,c,d,s⟩:Us).name=_ from HV.o] at h;exact h⟩
   |false=>
    have S:=Hv (to:=3) (by decide) hb
    have j:=ya (r.o.bad F.o hb)
    have G:=ya (Je (most:=(af.size:Int)) l.o MC.o m.o (fun i t=>absurd (S i t).1 (show ¬ early 3=true by decide)))
    clear hb S
    have y:∀ty,(Builtin.len_ #[90] ty #[.map (some mc)]).run Try.prog V=.ok (iV (af.size:Int)) V:=fun ty=>GR J ty
    gi_wp2_with fail
    refine ⟨trivial,zm (CallsIn.inRound lo (za.2 G.o)) ?_⟩
    rintro e w4 ⟨rfl,q⟩
    obtain rfl:=q.symm
    try gi_wp2_with fail
    exact ⟨rfl,Cd.refl _ _,rfl,j.o,_,R.o⟩
  ·have c0:=l.o;have c1:=A.o;have cf:=E.o
   clear aj X aa J ad K d2 c0 c1 cf
   cases hb:Kv (Tb.of x) ⟨ub,uo,4,c,d,s⟩ with
   |true=>
    obtain ⟨i,t,I,C,p⟩:=Hu (to:=4) (by decide) hb
    have U:=ya hb;have HV:=ya I
    have G:=ya (Hl (most:=(al.size:Int)) l.o A.o E.o MR.o m.o t (by rw[SR.o];exact Int.ofNat_lt.2 p))
    clear hb t I C p
    have y:∀ty,(Builtin.len_ #[90] ty #[.map (some mr)]).run Try.prog V=.ok (iV (al.size:Int)) V:=fun ty=>GR P ty
    gi_wp2_with fail
    refine ⟨trivial,zm (CallsIn.inRound lo (za.2 G.o)) ?_⟩
    rintro e w4 ⟨rfl,rfl⟩
    gi_wp2_with fail
    exact ⟨B.o _,by have h:=R.o.next r.o.Xx HX.o (show (4:Int)≠0 by decide) U.o;rw[show GH (Tb.of x) (Ds (⟨ub,uo,4,c,d,s⟩:Us).to) (⟨ub,uo,4,c,d,s⟩:Us).name=_ from HV.o] at h;exact h⟩
   |false=>
    have S:=Hv (to:=4) (by decide) hb
    have j:=ya (r.o.bad F.o hb)
    have G:=ya (Je (most:=(al.size:Int)) l.o MR.o m.o (fun i t=>absurd (S i t).1 (show ¬ early 4=true by decide)))
    clear hb S
    have y:∀ty,(Builtin.len_ #[90] ty #[.map (some mr)]).run Try.prog V=.ok (iV (al.size:Int)) V:=fun ty=>GR P ty
    gi_wp2_with fail
    refine ⟨trivial,zm (CallsIn.inRound lo (za.2 G.o)) ?_⟩
    rintro e w4 ⟨rfl,q⟩
    obtain rfl:=q.symm
    try gi_wp2_with fail
    exact ⟨rfl,Cd.refl _ _,rfl,j.o,_,R.o⟩
  ·have c0:=l.o;have c1:=A.o;have cf:=E.o
   clear aj X aa J a7 P d2 c0 c1 cf
   cases hb:Kv (Tb.of x) ⟨ub,uo,5,c,d,s⟩ with
   |true=>
    obtain ⟨i,t,I,C,p⟩:=Hu (to:=5) (by decide) hb
    have U:=ya hb;have HV:=ya I
    have G:=ya (Hl (most:=(ah.size:Int)) l.o A.o E.o MF.o m.o t (by rw[SF.o];exact Int.ofNat_lt.2 p))
    clear hb t I C p
    have y:∀ty,(Builtin.len_ #[90] ty #[.map (some mf)]).run Try.prog V=.ok (iV (ah.size:Int)) V:=fun ty=>GR K ty
    gi_wp2_with fail
    refine ⟨trivial,zm (CallsIn.inRound lo (za.2 G.o)) ?_⟩
    rintro e w4 ⟨rfl,rfl⟩
    gi_wp2_with fail
    exact ⟨B.o _,by have h:=R.o.next r.o.Xx HX.o (show (5:Int)≠0 by decide) U.o;rw[show GH (Tb.of x) (Ds (⟨ub,uo,5,c,d,s⟩:Us).to) (⟨ub,uo,5,c,d,s⟩:Us).name=_ from HV.o] at h;exact h⟩
   |false=>
    have S:=Hv (to:=5) (by decide) hb
    have j:=ya (r.o.bad F.o hb)
    have G:=ya (Je (most:=(ah.size:Int)) l.o MF.o m.o (fun i t=>absurd (S i t).1 (show ¬ early 5=true by decide)))
    clear hb S
    have y:∀ty,(Builtin.len_ #[90] ty #[.map (some mf)]).run Try.prog V=.ok (iV (ah.size:Int)) V:=fun ty=>GR K ty
    gi_wp2_with fail
    refine ⟨trivial,zm (CallsIn.inRound lo (za.2 G.o)) ?_⟩
    rintro e w4 ⟨rfl,q⟩
    obtain rfl:=q.symm
    try gi_wp2_with fail
    exact ⟨rfl,Cd.refl _ _,rfl,j.o,_,R.o⟩
 ·intro ho D O V hD er H ae
  have hx:(CG W5 L x).2=true:=by
   cases hx:(CG W5 L x).2 with
   |true=>rfl
   |false=>rw[hx] at ho;cases ho
  have a6:RJ w.heap.size W5 (Tb.of x) (Dt W5 L x) (Dt W5 L x).length O V:=by
   have h:(G2 L x).length+((CG W5 L x).1.map Us.v).length=(Dt W5 L x).length:=by unfold Dt;simp
   rw[<-h];exact H
  have hA:=a6.amid r.o.amid
  have ak:w.heap.size+3<=D:=by
   obtain ⟨v,Z⟩:=r.o.amid.e
   have h1:=(yd.1 Z).1
   have h2:=ai.o.size
   omega
  obtain ⟨cs,an,dg,df⟩:=r.o.src a6 hx
  rw[r.o.ls] at dg
  obtain ⟨row,fz,di⟩:=hA.x
  obtain ⟨ve,Z⟩:=hA.e
  have ap:=Om df
  have c3:(V.setRow (w.heap.size+1) cs.toArray).cell? (aV (w.heap.size+2) 0)=some ve:=by
   simp only[World.cell?,World.setRow,yU,yq (show ¬ w.heap.size+1=w.heap.size+2 by omega)]
   simp[Z]
  have f3:(V.setRow (w.heap.size+1) cs.toArray).frozen? (aV (w.heap.size+2) 0)=false:=by
   simp only[World.frozen?,World.setRow,yU,yq (show ¬ w.heap.size+1=w.heap.size+2 by omega)]
   simp[Z]
  have fq:Hid ((Try.prog.info? 35).map (·.size)=some cs.length):=ya (by rw[an];kernel_rfl)
  have f1:Hid ((Try.prog.info? 35).map (·.size)=some cs.toArray.size):=ya (by rw[yp];exact fq.o)
  have h0:=r.o.XL a6 hx
  have T:Below w.heap.size w ((V.setRow (w.heap.size+1) cs.toArray).setCell (aV (w.heap.size+2) 0) (iV 0)):=hA.below.trans ⟨rfl,rfl,rfl,by simp[World.setRow],fun b hb=>by
   rw[zf _ _ _ _ (by simp;omega)]
   simp only[World.setRow,yU,yq (show ¬ w.heap.size+1=b by omega)]⟩
  have dm:((V.setRow (w.heap.size+1) cs.toArray).setCell (aV (w.heap.size+2) 0) (iV 0)).heap[w.heap.size+1]?=some (.cells cs.toArray 35 (0,0)):=by
   rw[zf _ _ _ _ (by simp)]
   simp[World.setRow,yU,di]
  have gw:((V.setRow (w.heap.size+1) cs.toArray).setCell (aV (w.heap.size+2) 0) (iV 0)).heap[w.heap.size+2]?=some (.cells #[iV 0] 38 (0,0)):=by
   have:=zk (V.setRow (w.heap.size+1) cs.toArray) (w.heap.size+2) 0 #[ve] 38 (iV 0) (by simp[World.setRow,yU,Z])
   rw[this];rfl
  have a0:∀b,b≠w.heap.size+1->b≠w.heap.size+2->((V.setRow (w.heap.size+1) cs.toArray).setCell (aV (w.heap.size+2) 0) (iV 0)).heap[b]?=V.heap[b]?:=fun b h1 h2=>by
   rw[zf _ _ _ _ (by simpa using h2)]
   simp only[World.setRow,yU,yq (xr h1)]
  have ev:=(a0 D (by omega) (by omega)).trans ae
  have h8:W5.heap.size<=D:=by have:=ai.o.size;omega
  have hh:=a6.size
  have dc:Ra w.heap.size (((V.setRow (w.heap.size+1) cs.toArray).setCell (aV (w.heap.size+2) 0) (iV 0)).putObj D (.deferred none)) cs (Ao x):=by
   refine ⟨L,_,an,df.same (fun _ h=>h) (fun b hb=>?_),fun b hb=>⟨hb.1,?_⟩⟩
   ·obtain ⟨k1,k2,k3,k4⟩:=hb
    rw[World.putObj_heap_other (by omega),a0 b k3 k4]
   ·obtain ⟨k1,k2,k3,k4⟩:=hb
    simp[World.setRow];omega
  have de:=ya (fun tm I=>HQ.o.done D tm _ cs I T dm gw h0 ak ev dc)
  have hw:=ya dg;have gz:=ya ap;have i0:=ya di;have hj:Hid (row.size=cs.toArray.size):=ya (by rw[fz,yp,an])
  clear hx a6 hA ak dg df fz di Z ap h0 T dm gw a0 ev h8 hh dc hD er H ae ho an
  simp only[Exit.inBlock,Exit.then]
  refine Aq (Af ?_)
  go_wp2_with (first|(refine yf rfl 35 _ rfl (w.heap.size+1) 0 rfl cs _ hw.o qO rfl fq.o ?_)|(refine z6 rfl 35 _ _ rfl (w.heap.size+1) cs.toArray rfl rfl 35 row i0.o f1.o hj.o (yy gz.o) ?_))
  refine Af ?_
  go_wp2
  exact de.o _ ⟨rfl,rfl⟩
 ·rintro D ch O V hD er ⟨rfl,c5,k,H⟩ ae
  have ak:w.heap.size+3<=D:=by
   obtain ⟨v,Z⟩:=r.o.amid.e
   have h1:=(yd.1 Z).1
   have h2:=ai.o.size
   omega
  simp only[Exit.inBlock,Exit.then]
  have h:=fun tm I=>HQ.o.failD D tm V I (H.amid r.o.amid) (by rw[c5];decide) ak ae
  rw[c5] at h
  exact h _ ⟨rfl,rfl⟩
end Go.Proofs.Ytghepahgkcigpaa
