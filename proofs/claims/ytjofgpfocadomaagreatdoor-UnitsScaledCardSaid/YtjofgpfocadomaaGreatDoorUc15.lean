/- units.places$1: the walk, for a source without rotations, rights and duties (printed by gen_gw.py). -/
import Derived.Test.YtjofgpfocadomaaGreatDoorUc0
import Derived.Test.YtjofgpfocadomaaGreatDoorUc14
import Derived.Deep.RegionHeld2
import Derived.Deep.CutRange
set_option maxRecDepth 100000
set_option maxHeartbeats 16000000
set_option linter.unusedSimpArgs false
namespace Go.Proofs.YtjofgpfocadomaaGreatDoor
open Go.RowKit
set_option linter.unusedSimpArgs false
def WQ(NB:NP)(a W:World):Prop:=∀b,NB b->W.heap[b]?=a.heap[b]?
structure Ur (NB:Nat->Prop) (w0:World) (Bs:Nat) (L:Bt) (c0 c1 c2:List Value) (ccs:List (List Value)) (rcs:List R8) (fcs:List (Bool × List Value)):Prop where
 gu:GU w0
 gb:∀b,b < 6->NB b
 bs:NB Bs
 h0:J9 c0∧w0.rangeAt Bs 1 c0
 h1:J9 c1∧w0.rangeAt Bs 7 c1
 h2:J9 c2∧w0.rangeAt Bs 13 c2
 k20:w0.cell? ⟨Bs,20,none⟩=some L.crops.v
 k21:w0.cell? ⟨Bs,21,none⟩=some L.reaches.v
 k22:w0.cell? ⟨Bs,22,none⟩=some L.farms.v
 k23:w0.cell? ⟨Bs,23,none⟩=some L.rots.v
 k24:w0.cell? ⟨Bs,24,none⟩=some L.rights.v
 k25:w0.cell? ⟨Bs,25,none⟩=some L.duties.v
 nn:L.rots.n=0∧L.rights.n=0∧L.duties.n=0
 small:ccs.length<=100000∧rcs.length<=100000∧fcs.length<=100000
 crops:L.crops.n=ccs.length∧∀i (hi:i < ccs.length),∃b o nm,L.crops.a=some ⟨b,o,none⟩∧NB b∧w0.rangeAt b (o+i*7) (.string nm::ccs[i])∧J9 ccs[i]
 reaches:L.reaches.n=rcs.length∧∀i (hi:i < rcs.length),∃b o nm rf,L.reaches.a=some ⟨b,o,none⟩∧NB b∧w0.rangeAt b (o+i*51) (.string nm::(AU rf++(rcs[i].c0++(rcs[i].c1++(rcs[i].c2++(rcs[i].c3++(rcs[i].c4++(rcs[i].c5++(rcs[i].c6++rcs[i].c7)))))))))∧J9 rcs[i].c0∧J9 rcs[i].c1∧J9 rcs[i].c2∧J9 rcs[i].c3∧J9 rcs[i].c4∧J9 rcs[i].c5∧J9 rcs[i].c6∧J9 rcs[i].c7∧∃e,rcs[i].s=!Bv e∧∀W,Calls Tryz.prog 37 #[.agg rcs[i].c3.toArray] W fun en w'=>en=.returned (.bool (Bv e))∧Below W.heap.size W w'
 farms:L.farms.n=fcs.length∧∀i (hi:i < fcs.length),∃b o nm rf rv rf2,L.farms.a=some ⟨b,o,none⟩∧NB b∧w0.rangeAt b (o+i*12) (.string nm::(AU rf++(.bool rv::(fcs[i].2++AU rf2))))∧J9 fcs[i].2∧fcs[i].1=!rv
theorem Ic{NB:NP}{a W:World}(h:WQ NB a W){b o:Nat}(hb:NB b){v:Value}(c:a.cell? ⟨b,o,none⟩=some v):W.cell? ⟨b,o,none⟩=some v:=by
 unfold World.cell? at c ⊢
 rw[h b hb];exact c
theorem Cn{NB:NP}{a W:World}(h:WQ NB a W){b o:Nat}(hb:NB b){cs:LV}(c:a.rangeAt b o cs):W.rangeAt b o cs:=A0 c (h b hb)
theorem WG{J:Nat->NP->World->Prop}{Jx:NP->World->Prop}{W0:World}{l Bon By k:Nat}{P:NP->World->Prop}{W:World}{H:World->Prop}(b:∀k O W,J k O W->H W)(a:∀O W,Jx O W->H W)(h:Hj J Jx W0 l Bon By k P W):H W:=by
 obtain ⟨O,h1, -⟩:=h
 rcases h1.st with ⟨-,h2⟩|⟨-,h2⟩
 ·exact b _ _ _ h2
 ·exact a _ _ h2
def Xj(J:Nat->NP->World->Prop)(Jx:NP->World->Prop)(Jp:List PanicEntry->NP->World->Prop)(k:Nat)(e:Ending)(W':World):Prop:=
 ((∃v,e=.returned v)∧((∃O,J k O W')∨∃O,Jx O W'))∨∃a,e=.panicked a∧∃O,Jp a O W'
theorem Pe(n:Nat)(hn:1<=n)(l Bs:Nat)(L:Bt)(NB:Nat->Prop)(w0:World)(c0 c1 c2:List Value)(ccs:List (List Value))(rcs:List R8)(fcs:List (Bool × List Value))(hm:Ur NB w0 Bs L c0 c1 c2 ccs rcs fcs)(J:Nat->(Nat->Prop)->World->Prop)(Jx:(Nat->Prop)->World->Prop)(Jp:List PanicEntry->(Nat->Prop)->World->Prop)(W0:World)
 (hc:Mn (n - 1) l (DA c0 c1 c2 ccs rcs fcs) J Jx Jp W0)(hj:∀k O W,J k O W->WQ NB w0 W)(hjx:∀O W,Jx O W->WQ NB w0 W)(h0:J 0 (fun _=>False) W0):
  Calls Tryz.prog 74 #[.func (.yield l) #[] #[],.pointer (some ⟨Bs,0,none⟩)] W0 (Xj J Jx Jp (DA c0 c1 c2 ccs rcs fcs).length):=by
 have hmf:∀(fn:Fn) (first cap:Array Value) (w:World),(Instr.makeFunc fn first cap).run Tryz.prog w=.ok (.func fn first cap) w:=fun _ _ _ _=>rfl
 have HM:=yb hm
 have HC:=yb hc
 have HHd:Hid (∀k P W,Hj J Jx W0 l (W0.heap.size+1) W0.heap.size k P W->WQ NB w0 W):=yb (fun k P W h=>WG hj hjx h)
 have HR0:Hid (Hj J Jx W0 l (W0.heap.size+1) W0.heap.size 0 Dc ((W0.alloc (.cells #[.func (.yield l) #[] #[]] 161)).alloc (.cells #[.bool true] 4))):=yb (by
  have hb:Below W0.heap.size W0 ((W0.alloc (.cells #[.func (.yield l) #[] #[]] 161)).alloc (.cells #[.bool true] 4)):=((yg _ _).alloc (yf _) _).alloc (by simp) _
  have h2:=World.alloc_heap_new (W0.alloc (.cells #[.func (.yield l) #[] #[]] 161)) (.cells #[.bool true] 4)
  rw[z6] at h2
  refine ⟨_,⟨fun b hb2=>hb2.elim (fun h=>h.elim) (fun h=>h),hb.size,.inr ⟨by omega,by simp⟩,.inr ⟨yf _,by simp<;>omega⟩,by omega,(yA _ _ _ (by simp)).trans (World.alloc_heap_new _ _),.inl ⟨h2,CL hc.stays h0 hb⟩⟩,trivial⟩)
 obtain ⟨X,hX⟩:∃X,X=DA c0 c1 c2 ccs rcs fcs:=⟨_,rfl⟩
 have HX:=yb hX
 rw[<-hX] at HC ⊢
 clear hm hc hj hjx h0 hX
 go_enter Tryz.func74,Tryz.ntmps74
 iterate 2
  refine Ab fun K hK=>?_
  go_wp2
  refine hK.o _ _ ?_
  clear hK K
 generalize (W0.alloc _).alloc _=wr at HR0 ⊢
 have HR:=HR0
 clear HR0
 refine Ab fun K hK=>?_
 go_wp2
 refine hK.o _ _ ?_
 clear hK K
 refine Ab fun K hK=>?_
 have HHw:=yb (HHd.o _ _ _ HR.o)
 have HPut:Hid (Calls Tryz.prog 75 #[.agg #[.int .i64 0,.int .i64 1,.int .i64 0],.bool true,.slice (some ⟨wr.heap.size,0,none⟩) 1 1,.pointer (some ⟨W0.heap.size+1,0,none⟩),.pointer (some ⟨W0.heap.size,0,none⟩)] (wr.alloc (.cells (c0).toArray 26)) (GK J Jx Jp W0 l (W0.heap.size+1) W0.heap.size (0+1) Dc)):=yb (by
  have h:=E6 HC.o hn (LF _) HR.o CX true [c0] (by intro c hc;simp only[yO,za,zP] at hc;rcases hc with rfl<;>first|exact HM.o.h0.1) (by simp) (by
   rw[HX.o]
   exact Up)
  simp only[zt,xm,yU,yz,yH,yy,Nat.reduceAdd] at h
  exact h)
 have HGl:Hid (wr.rangeAt 0 0 [.int .i64 0,.int .i64 1,.int .i64 0]):=yb (Cn HHw.o (HM.o.gb 0 (by omega)) HM.o.gu.hours)
 have HLd0:Hid (wr.rangeAt Bs 1 c0):=yb (Cn HHw.o HM.o.bs HM.o.h0.2)
 clear HHw
 go_wp2_with (first
  |(with_reducible refine yj rfl 68 _ rfl 0 0 (by kernel_rfl) [.int .i64 0,.int .i64 1,.int .i64 0] _ HGl.o j9 (by kernel_rfl) (by kernel_rfl) ?_)
  |(with_reducible refine yj rfl 26 _ rfl (Bs) 1 (by kernel_rfl) c0 _ HLd0.o qP (by kernel_rfl) (QH (HM.o.h0.1).len) ?_;clear HLd0)
  |(with_reducible refine DH rfl 24 26 _ rfl c0 (by kernel_rfl) 6 qO (by kernel_rfl) (HM.o.h0.1).len (by omega) (by omega) ?_)
  |(go_at_call 75;refine HPut.o.mono ?_;rintro e w2 (⟨rfl,hr⟩|⟨ch,rfl,hp⟩);rotate_left;exact ⟨rfl,.inr ⟨ch,rfl,hp⟩⟩;have HR2:=yb hr;clear hr))
 refine hK.o _ _ ?_
 clear hK K HPut HGl HR
 have HR:=HR2
 clear HR2
 generalize w2=wr at HR ⊢
 replace HR:Hid (Hj J Jx W0 l (W0.heap.size+1) W0.heap.size (1) Dc wr):=HR
 refine Ab fun K hK=>?_
 have HHw:=yb (HHd.o _ _ _ HR.o)
 have HPut:Hid (Calls Tryz.prog 75 #[.agg #[.int .i64 1,.int .i64 0,.int .i64 0],.bool true,.slice (some ⟨wr.heap.size,0,none⟩) 2 2,.pointer (some ⟨W0.heap.size+1,0,none⟩),.pointer (some ⟨W0.heap.size,0,none⟩)] (wr.alloc (.cells ((c1++c2)).toArray 26)) (GK J Jx Jp W0 l (W0.heap.size+1) W0.heap.size (1+2) Dc)):=yb (by
  have h:=E6 HC.o hn (LF _) HR.o AY true [c1,c2] (by intro c hc;simp only[yO,za,zP] at hc;rcases hc with rfl|rfl<;>first|exact HM.o.h1.1|exact HM.o.h2.1) (by simp) (by
   rw[HX.o]
   exact Uq)
  simp only[zt,xm,yU,yz,yH,yy,Nat.reduceAdd] at h
  exact h)
 have HGl:Hid (wr.rangeAt 1 0 [.int .i64 1,.int .i64 0,.int .i64 0]):=yb (Cn HHw.o (HM.o.gb 1 (by omega)) HM.o.gu.litres)
 have HLd0:Hid (wr.rangeAt Bs 7 c1):=yb (Cn HHw.o HM.o.bs HM.o.h1.2)
 have HLd1:Hid (wr.rangeAt Bs 13 c2):=yb (Cn HHw.o HM.o.bs HM.o.h2.2)
 clear HHw
 go_wp2_with (first
  |(with_reducible refine yj rfl 68 _ rfl 1 0 (by kernel_rfl) [.int .i64 1,.int .i64 0,.int .i64 0] _ HGl.o j9 (by kernel_rfl) (by kernel_rfl) ?_)
  |(with_reducible refine yj rfl 26 _ rfl (Bs) 7 (by kernel_rfl) c1 _ HLd0.o qP (by kernel_rfl) (QH (HM.o.h1.1).len) ?_;clear HLd0)
  |(with_reducible refine yj rfl 26 _ rfl (Bs) 13 (by kernel_rfl) c2 _ HLd1.o qP (by kernel_rfl) (QH (HM.o.h2.1).len) ?_;clear HLd1)
  |(with_reducible refine Iw rfl 24 26 _ _ rfl c1 c2 (by kernel_rfl) (by kernel_rfl) 6 qO (by kernel_rfl) (HM.o.h1.1).len (HM.o.h2.1).len (by omega) (by omega) ?_)
  |(go_at_call 75;refine HPut.o.mono ?_;rintro e w2 (⟨rfl,hr⟩|⟨ch,rfl,hp⟩);rotate_left;exact ⟨rfl,.inr ⟨ch,rfl,hp⟩⟩;have HR2:=yb hr;clear hr))
 refine hK.o _ _ ?_
 clear hK K HPut HGl HR
 have HR:=HR2
 clear HR2
 generalize w2=wr at HR ⊢
 replace HR:Hid (Hj J Jx W0 l (W0.heap.size+1) W0.heap.size (3) Dc wr):=HR
 have HHw:=yb (HHd.o _ _ _ HR.o)
 have hhd:=Ic HHw.o HM.o.bs HM.o.k20
 obtain ⟨lh,hlh⟩:∃h,h=L.crops:=⟨_,rfl⟩
 rw[<-hlh] at hhd
 have HLh:=yb hlh
 have HNh:Hid (lh.n=ccs.length):=yb (by rw[hlh];exact HM.o.crops.1)
 clear hlh HHw
 obtain ⟨la,ln,lc⟩:=lh
 unfold Aw.v at hhd
 dsimp only at hhd HNh
 refine Ab fun K hK=>?_
 go_wp2_with fail
 clear hhd
 go_loopw [37] (fun iv wr=>∃i:Nat,i<=ln∧iv=.int .i64 i∧Hid (Hj J Jx W0 l (W0.heap.size+1) W0.heap.size (3+i) Dc wr)) (fun iv _=>ln - (intOf iv).toNat)
 case atStart=>exact ⟨0,yI _,rfl,HR⟩
 case round=>
  clear HR
  obtain ⟨i,hi,rfl,HR⟩:=hrel
  by_cases hlt:i < ln
  ·have hil:i < ccs.length:=by have:=HNh.o;omega
   have hwi:wrap64 ((i:Int)+1)=((i+1:Nat):Int):=by
    have:=HM.o.small
    rw[AH (by omega)];push_cast;rfl
   have HWi:=yb hwi
   clear hwi
   obtain ⟨b,o,nm,hla,hNb,hrg,h6⟩:=HM.o.crops.2 i hil
   rw[<-HLh.o] at hla
   dsimp only at hla
   subst hla
   have H6:=yb h6
   have HIx:=yb (QJ (c0:=c0) (c1:=c1) (c2:=c2) (rcs:=rcs) (fcs:=fcs) hil)
   generalize ccs[i]=cc at hrg H6 HIx
   clear h6
   obtain ⟨row,hrow⟩:∃r:List Value,r=.string nm::cc:=⟨_,rfl⟩
   rw[<-hrow] at hrg
   have HRow:=yb hrow
   have HL:Hid (row.length=7):=yb (by rw[hrow];simp[AU,H6.o.len])
   have HOne:Hid (∀v∈row,v.oneCell'=true):=yb (by rw[hrow];exact BZ rfl (EC H6.o))
   have HHw:=yb (HHd.o _ _ _ HR.o)
   have HRg:=yb (Cn HHw.o hNb hrg)
   have HRB:=yb (HR.o.box HC.o row 92)
   have hki:(i:Int) < (ln:Int):=by omega
   clear hrow hrg HHw hNb
   go_upto_region 8 with (first
    |(with_reducible refine yj rfl 92 _ rfl b (o+i*7) (by kernel_rfl) row _ HRg.o je (by kernel_rfl) (by rw[HL.o];kernel_rfl) ?_)
    |(with_reducible refine ze rfl 92 _ _ rfl wr.heap.size row.toArray (by kernel_rfl) (by kernel_rfl) 92 _ (World.alloc_heap_new _ _) (by rw[yM,HL.o];kernel_rfl) (by simp[HL.o]) (zb HOne.o) ?_;rw[World.setRow_alloc_new]))
   generalize hbx:wr.heap.size=bx at HRB ⊢
   clear hbx HR HRg
   have HR:=HRB
   clear HRB
   generalize wr.alloc _=wr at HR ⊢
   have HHw:=yb (HHd.o _ _ _ HR.o)
   have HPut:Hid (Calls Tryz.prog 75 #[.agg #[.int .i64 1,.int .i64 0,.int .i64 (-1)],.bool true,.slice (some ⟨wr.heap.size,0,none⟩) 1 1,.pointer (some ⟨W0.heap.size+1,0,none⟩),.pointer (some ⟨W0.heap.size,0,none⟩)] (wr.alloc (.cells (cc).toArray 26)) (GK J Jx Jp W0 l (W0.heap.size+1) W0.heap.size (3+i+1) (LD (W0.heap.size+1) bx row 92))):=yb (by
    have h:=E6 HC.o hn (DT _ _ _ _) HR.o GJ true [cc] (by intro c hc;simp only[yO,za,zP] at hc;rcases hc with rfl<;>first|exact H6.o) (by simp) (by
     rw[HX.o]
     exact HIx.o)
    simp only[zt,xm,yU,yz,yH,yy,Nat.reduceAdd] at h
    exact h)
   have HGl:Hid (wr.rangeAt 2 0 [.int .i64 1,.int .i64 0,.int .i64 (-1)]):=yb (Cn HHw.o (HM.o.gb 2 (by omega)) HM.o.gu.need)
   have HLd0:Hid (wr.rangeAt bx 1 cc):=yb (by obtain ⟨O, -, -, -,h⟩:=HR.o;exact Cm (pre:=[.string nm]) (post:=[]) h (by rw[HRow.o];simp) rfl)
   clear HHw
   go_wp2_with (first
    |(with_reducible refine yj rfl 68 _ rfl 2 0 (by kernel_rfl) [.int .i64 1,.int .i64 0,.int .i64 (-1)] _ HGl.o j9 (by kernel_rfl) (by kernel_rfl) ?_)
    |(with_reducible refine yj rfl 26 _ rfl (bx) 1 (by kernel_rfl) cc _ HLd0.o qP (by kernel_rfl) (QH (H6.o).len) ?_;clear HLd0)
    |(with_reducible refine DH rfl 24 26 _ rfl cc (by kernel_rfl) 6 qO (by kernel_rfl) (H6.o).len (by omega) (by omega) ?_)
    |(go_at_call 75;refine HPut.o.mono ?_;rintro e w2 (⟨rfl,hr⟩|⟨ch,rfl,hp⟩);rotate_left;exact ⟨rfl,.inr ⟨ch,rfl,hp⟩⟩;have HR2:=yb hr;clear hr))
   clear HPut HGl HR
   rw[HWi.o]
   exact ⟨⟨i+1,by omega,rfl,yb HR2.o.no⟩,by simp[intOf];omega⟩
  ·obtain rfl:i=ln:=by omega
   have hki:decide ((i:Int) < (i:Int))=false:=by simp
   have HRe:Hid (Hj J Jx W0 l (W0.heap.size+1) W0.heap.size (3+ccs.length) Dc wr):=yb (by have h:=HR.o;rw[HNh.o] at h;exact h)
   clear HR HLh
   go_wp2
   refine hK.o _ _ ?_
   clear hK
   have HR:=HRe
   clear HRe HNh
   have HHw:=yb (HHd.o _ _ _ HR.o)
   have hhd:=Ic HHw.o HM.o.bs HM.o.k21
   obtain ⟨lh,hlh⟩:∃h,h=L.reaches:=⟨_,rfl⟩
   rw[<-hlh] at hhd
   have HLh:=yb hlh
   have HNh:Hid (lh.n=rcs.length):=yb (by rw[hlh];exact HM.o.reaches.1)
   clear hlh HHw
   obtain ⟨la,ln,lc⟩:=lh
   unfold Aw.v at hhd
   dsimp only at hhd HNh
   refine Ab fun K hK=>?_
   go_wp2_with fail
   clear hhd
   go_loopw [51] (fun iv wr=>∃i:Nat,i<=ln∧iv=.int .i64 i∧Hid (Hj J Jx W0 l (W0.heap.size+1) W0.heap.size (3+ccs.length+8*i) Dc wr)) (fun iv _=>ln - (intOf iv).toNat)
   case atStart=>exact ⟨0,yI _,rfl,HR⟩
   case round=>
    clear HR
    obtain ⟨i,hi,rfl,HR⟩:=hrel
    by_cases hlt:i < ln
    ·have hil:i < rcs.length:=by have:=HNh.o;omega
     have hwi:wrap64 ((i:Int)+1)=((i+1:Nat):Int):=by
      have:=HM.o.small
      rw[AH (by omega)];push_cast;rfl
     have HWi:=yb hwi
     clear hwi
     obtain ⟨b,o,nm,rf,hla,hNb,hrg,h0,h1,h2,h3,h4,h5,h6,h7,le,hle,hab⟩:=HM.o.reaches.2 i hil
     rw[<-HLh.o] at hla
     dsimp only at hla
     subst hla
     have HIx:=yb (QL (Pd (c0:=c0) (c1:=c1) (c2:=c2) (ccs:=ccs) (fcs:=fcs) hil))
     generalize rcs[i]=rr at hrg h0 h1 h2 h3 h4 h5 h6 h7 hle hab HIx
     obtain ⟨rs,d0,d1,d2,d3,d4,d5,d6,d7⟩:=rr
     dsimp only at hrg h0 h1 h2 h3 h4 h5 h6 h7 hle hab HIx
     have H6:Hid (J9 d0∧J9 d1∧J9 d2∧J9 d3∧J9 d4∧J9 d5∧J9 d6∧J9 d7):=yb ⟨h0,h1,h2,h3,h4,h5,h6,h7⟩
     have HAb:=yb hab
     have HLe:=yb hle
     clear h0 h1 h2 h3 h4 h5 h6 h7 hab hle
     obtain ⟨row,hrow⟩:∃r:List Value,r=.string nm::(AU rf++(d0++(d1++(d2++(d3++(d4++(d5++(d6++d7)))))))):=⟨_,rfl⟩
     rw[<-hrow] at hrg
     have HRow:=yb hrow
     have HL:Hid (row.length=51):=yb (by rw[hrow];simp[AU,(H6.o.1).len,(H6.o.2.1).len,(H6.o.2.2.1).len,(H6.o.2.2.2.1).len,(H6.o.2.2.2.2.1).len,(H6.o.2.2.2.2.2.1).len,(H6.o.2.2.2.2.2.2.1).len,(H6.o.2.2.2.2.2.2.2).len])
     have HOne:Hid (∀v∈row,v.oneCell'=true):=yb (by rw[hrow];exact BZ rfl (AG (Er _) (AG (EC H6.o.1) (AG (EC H6.o.2.1) (AG (EC H6.o.2.2.1) (AG (EC H6.o.2.2.2.1) (AG (EC H6.o.2.2.2.2.1) (AG (EC H6.o.2.2.2.2.2.1) (AG (EC (H6.o.2.2.2.2.2.2.1)) (EC H6.o.2.2.2.2.2.2.2))))))))))
     have HHw:=yb (HHd.o _ _ _ HR.o)
     have HRg:=yb (Cn HHw.o hNb hrg)
     have HRB:=yb (HR.o.box HC.o row 66)
     have hki:(i:Int) < (ln:Int):=by omega
     clear hrow hrg HHw hNb
     go_upto_region 13 with (first
      |(with_reducible refine yj rfl 66 _ rfl b (o+i*51) (by kernel_rfl) row _ HRg.o j8 (by kernel_rfl) (by rw[HL.o];kernel_rfl) ?_)
      |(with_reducible refine ze rfl 66 _ _ rfl wr.heap.size row.toArray (by kernel_rfl) (by kernel_rfl) 66 _ (World.alloc_heap_new _ _) (by rw[yM,HL.o];kernel_rfl) (by simp[HL.o]) (zb HOne.o) ?_;rw[World.setRow_alloc_new]))
     generalize hbx:wr.heap.size=bx at HRB ⊢
     clear hbx HR HRg
     have HR:=HRB
     clear HRB
     generalize wr.alloc _=wr at HR ⊢
     have HRr:Hid (∀V:World,V.heap[bx]?=some (.cells row.toArray 66 (0,0))->V.rangeAt bx 3 d0∧V.rangeAt bx 9 d1∧V.rangeAt bx 15 d2∧V.rangeAt bx 21 d3∧V.rangeAt bx 27 d4∧V.rangeAt bx 33 d5∧V.rangeAt bx 39 d6∧V.rangeAt bx 45 d7):=yb (fun V h=>Pc h HRow.o (H6.o.1).len (H6.o.2.1).len (H6.o.2.2.1).len (H6.o.2.2.2.1).len (H6.o.2.2.2.2.1).len (H6.o.2.2.2.2.2.1).len (H6.o.2.2.2.2.2.2.1).len)
     have HHw:=yb (HHd.o _ _ _ HR.o)
     have HPut:Hid (Calls Tryz.prog 75 #[.agg #[.int .i64 0,.int .i64 1,.int .i64 0],.bool true,.slice (some ⟨wr.heap.size,0,none⟩) 1 1,.pointer (some ⟨W0.heap.size+1,0,none⟩),.pointer (some ⟨W0.heap.size,0,none⟩)] (wr.alloc (.cells (d0).toArray 26)) (GK J Jx Jp W0 l (W0.heap.size+1) W0.heap.size (3+ccs.length+8*i+1) (LD (W0.heap.size+1) bx row 66))):=yb (by
      have h:=E6 HC.o hn (DT _ _ _ _) HR.o CX true [d0] (by intro c hc;simp only[yO,za,zP] at hc;rcases hc with rfl<;>first|exact H6.o.1) (by simp) (by
       rw[HX.o]
       exact HIx.o.1)
      simp only[zt,xm,yU,yz,yH,yy,Nat.reduceAdd] at h
      exact h)
     have HGl:Hid (wr.rangeAt 0 0 [.int .i64 0,.int .i64 1,.int .i64 0]):=yb (Cn HHw.o (HM.o.gb 0 (by omega)) HM.o.gu.hours)
     have HLd0:Hid (wr.rangeAt bx 3 d0):=yb (by obtain ⟨O, -, -, -,h⟩:=HR.o;exact (HRr.o _ h).1)
     clear HHw
     go_upto_region 14 with (first
      |(with_reducible refine yj rfl 68 _ rfl 0 0 (by kernel_rfl) [.int .i64 0,.int .i64 1,.int .i64 0] _ HGl.o j9 (by kernel_rfl) (by kernel_rfl) ?_)
      |(with_reducible refine yj rfl 26 _ rfl (bx) 3 (by kernel_rfl) d0 _ HLd0.o qP (by kernel_rfl) (QH (H6.o.1).len) ?_;clear HLd0)
      |(with_reducible refine DH rfl 24 26 _ rfl d0 (by kernel_rfl) 6 qO (by kernel_rfl) (H6.o.1).len (by omega) (by omega) ?_)
      |(go_at_call 75;refine HPut.o.mono ?_;rintro e w2 (⟨rfl,hr⟩|⟨ch,rfl,hp⟩);rotate_left;exact ⟨rfl,.inr ⟨ch,rfl,hp⟩⟩;have HR2:=yb hr;clear hr))
     clear HPut HGl HR
     have HR:=HR2
     clear HR2
     generalize w2=wr at HR ⊢
     have HHw:=yb (HHd.o _ _ _ HR.o)
     have HPut:Hid (Calls Tryz.prog 75 #[.agg #[.int .i64 1,.int .i64 (-1),.int .i64 0],.bool true,.slice (some ⟨wr.heap.size,0,none⟩) 1 1,.pointer (some ⟨W0.heap.size+1,0,none⟩),.pointer (some ⟨W0.heap.size,0,none⟩)] (wr.alloc (.cells (d1).toArray 26)) (GK J Jx Jp W0 l (W0.heap.size+1) W0.heap.size (3+ccs.length+8*i+1+1) (LD (W0.heap.size+1) bx row 66))):=yb (by
      have h:=E6 HC.o hn (DT _ _ _ _) HR.o J8 true [d1] (by intro c hc;simp only[yO,za,zP] at hc;rcases hc with rfl<;>first|exact H6.o.2.1) (by simp) (by
       rw[HX.o]
       exact HIx.o.2.1)
      simp only[zt,xm,yU,yz,yH,yy,Nat.reduceAdd] at h
      exact h)
     have HGl:Hid (wr.rangeAt 3 0 [.int .i64 1,.int .i64 (-1),.int .i64 0]):=yb (Cn HHw.o (HM.o.gb 3 (by omega)) HM.o.gu.flow)
     have HLd0:Hid (wr.rangeAt bx 9 d1):=yb (by obtain ⟨O, -, -, -,h⟩:=HR.o;exact (HRr.o _ h).2.1)
     clear HHw
     go_upto_region 15 with (first
      |(with_reducible refine yj rfl 68 _ rfl 3 0 (by kernel_rfl) [.int .i64 1,.int .i64 (-1),.int .i64 0] _ HGl.o j9 (by kernel_rfl) (by kernel_rfl) ?_)
      |(with_reducible refine yj rfl 26 _ rfl (bx) 9 (by kernel_rfl) d1 _ HLd0.o qP (by kernel_rfl) (QH (H6.o.2.1).len) ?_;clear HLd0)
      |(with_reducible refine DH rfl 24 26 _ rfl d1 (by kernel_rfl) 6 qO (by kernel_rfl) (H6.o.2.1).len (by omega) (by omega) ?_)
      |(go_at_call 75;refine HPut.o.mono ?_;rintro e w2 (⟨rfl,hr⟩|⟨ch,rfl,hp⟩);rotate_left;exact ⟨rfl,.inr ⟨ch,rfl,hp⟩⟩;have HR2:=yb hr;clear hr))
     clear HPut HGl HR
     have HR:=HR2
     clear HR2
     generalize w2=wr at HR ⊢
     have HHw:=yb (HHd.o _ _ _ HR.o)
     have HPut:Hid (Calls Tryz.prog 75 #[.agg #[.int .i64 1,.int .i64 0,.int .i64 0],.bool true,.slice (some ⟨wr.heap.size,0,none⟩) 3 3,.pointer (some ⟨W0.heap.size+1,0,none⟩),.pointer (some ⟨W0.heap.size,0,none⟩)] (wr.alloc (.cells ((d2++(d4++d5))).toArray 26)) (GK J Jx Jp W0 l (W0.heap.size+1) W0.heap.size (3+ccs.length+8*i+1+1+3) (LD (W0.heap.size+1) bx row 66))):=yb (by
      have h:=E6 HC.o hn (DT _ _ _ _) HR.o AY true [d2,d4,d5] (by intro c hc;simp only[yO,za,zP] at hc;rcases hc with rfl|rfl|rfl<;>first|exact H6.o.2.2.1|exact H6.o.2.2.2.2.1|exact H6.o.2.2.2.2.2.1) (by simp) (by
       rw[HX.o]
       exact HIx.o.2.2.1)
      simp only[zt,xm,yU,yz,yH,yy,Nat.reduceAdd] at h
      exact h)
     have HGl:Hid (wr.rangeAt 1 0 [.int .i64 1,.int .i64 0,.int .i64 0]):=yb (Cn HHw.o (HM.o.gb 1 (by omega)) HM.o.gu.litres)
     have HLd0:Hid (wr.rangeAt bx 15 d2):=yb (by obtain ⟨O, -, -, -,h⟩:=HR.o;exact (HRr.o _ h).2.2.1)
     have HLd1:Hid (wr.rangeAt bx 27 d4):=yb (by obtain ⟨O, -, -, -,h⟩:=HR.o;exact (HRr.o _ h).2.2.2.2.1)
     have HLd2:Hid (wr.rangeAt bx 33 d5):=yb (by obtain ⟨O, -, -, -,h⟩:=HR.o;exact (HRr.o _ h).2.2.2.2.2.1)
     clear HHw
     go_upto_region 16 with (first
      |(with_reducible refine yj rfl 68 _ rfl 1 0 (by kernel_rfl) [.int .i64 1,.int .i64 0,.int .i64 0] _ HGl.o j9 (by kernel_rfl) (by kernel_rfl) ?_)
      |(with_reducible refine yj rfl 26 _ rfl (bx) 15 (by kernel_rfl) d2 _ HLd0.o qP (by kernel_rfl) (QH (H6.o.2.2.1).len) ?_;clear HLd0)
      |(with_reducible refine yj rfl 26 _ rfl (bx) 27 (by kernel_rfl) d4 _ HLd1.o qP (by kernel_rfl) (QH (H6.o.2.2.2.2.1).len) ?_;clear HLd1)
      |(with_reducible refine yj rfl 26 _ rfl (bx) 33 (by kernel_rfl) d5 _ HLd2.o qP (by kernel_rfl) (QH (H6.o.2.2.2.2.2.1).len) ?_;clear HLd2)
      |(with_reducible refine Mp rfl 24 26 _ _ _ rfl d2 d4 d5 (by kernel_rfl) (by kernel_rfl) (by kernel_rfl) 6 qO (by kernel_rfl) (H6.o.2.2.1).len (H6.o.2.2.2.2.1).len (H6.o.2.2.2.2.2.1).len (by omega) (by omega) ?_)
      |(go_at_call 75;refine HPut.o.mono ?_;rintro e w2 (⟨rfl,hr⟩|⟨ch,rfl,hp⟩);rotate_left;exact ⟨rfl,.inr ⟨ch,rfl,hp⟩⟩;have HR2:=yb hr;clear hr))
     clear HPut HGl HR
     have HR:=HR2
     clear HR2
     generalize w2=wr at HR ⊢
     obtain ⟨so,sn,su,srn,sri,sp,sm,sk,hd3⟩:=H6.o.2.2.2.1
     have hab:=HAb.o
     rw[hd3] at hab
     have HAb3:=yb hab
     clear hab
     generalize Bv le=le at HLe HAb3
     have HSR:Hid (∀(k:Nat) (P:(Nat->Prop)->World->Prop) (V:World),Hj J Jx W0 l (W0.heap.size+1) W0.heap.size k (fun O U=>(LD (W0.heap.size+1) bx row 66) O U∧P O U) V->V.cell? ⟨1,0,none⟩=some (.int .i64 1)∧V.cell? ⟨1,1,none⟩=some (.int .i64 0)∧V.cell? ⟨1,2,none⟩=some (.int .i64 0)∧V.cell? ⟨bx,21,none⟩=some (.int .i64 so)∧V.cell? ⟨bx,22,none⟩=some (.int .i64 sn)∧V.cell? ⟨bx,23,none⟩=some (.int .i64 su)∧V.cell? ⟨bx,24,none⟩=some (.string srn)∧V.cell? ⟨bx,25,none⟩=some (.int .i64 sri)∧V.cell? ⟨bx,26,none⟩=some (.slice sp sm sk)):=yb (fun k P V h=>by
      have hh:=HHd.o _ _ _ h
      obtain ⟨g0,g1,g2⟩:=Lp (Cn hh (HM.o.gb 1 (by omega)) HM.o.gu.litres)
      obtain ⟨O, -,⟨-, -,hb⟩, -⟩:=h
      have hr:=(HRr.o _ hb).2.2.2.1
      rw[hd3] at hr
      obtain ⟨x0,x1,x2,x3,x4,x5⟩:=Br hr
      exact ⟨g0,g1,g2,x0,x1,x2,x3,x4,x5⟩)
     have H3x:Hid (J9 [.int .i64 so,.int .i64 sn,.int .i64 su,.string srn,.int .i64 sri,.slice sp sm sk]):=yb (by rw[<-hd3];exact H6.o.2.2.2.1)
     have HIx3:Hid (∃pre post,DA c0 c1 c2 ccs rcs fcs=pre++([[.int .i64 so,.int .i64 sn,.int .i64 su,.string srn,.int .i64 sri,.slice sp sm sk]].map (DL AY (!le))++post)∧pre.length=3+ccs.length+8*i+5):=yb (by rw[<-hd3,<-HLe.o];exact HIx.o.2.2.2.1)
     have HRn:Hid (Hj J Jx W0 l (W0.heap.size+1) W0.heap.size (3+ccs.length+8*i+5) (fun O U=>(LD (W0.heap.size+1) bx row 66) O U∧Dc O U) wr):=yb (by obtain ⟨O,h1,h2⟩:=HR.o;exact ⟨O,h1,h2,trivial⟩)
     have HKn:Hid (Ix (W0.heap.size+1) (fun O U=>(LD (W0.heap.size+1) bx row 66) O U∧Dc O U)):=yb (N9 (DT _ _ _ _) (LF _))
     have HPL:Hid (∀V:World,Hj J Jx W0 l (W0.heap.size+1) W0.heap.size (3+ccs.length+8*i+5) (fun O U=>(LD (W0.heap.size+1) bx row 66) O U∧Dc O U) V->Calls Tryz.prog 75 #[.agg #[.int .i64 1,.int .i64 0,.int .i64 0],.bool (!le),.slice (some ⟨V.heap.size,0,none⟩) 1 1,.pointer (some ⟨W0.heap.size+1,0,none⟩),.pointer (some ⟨W0.heap.size,0,none⟩)] (V.alloc (.cells #[.int .i64 so,.int .i64 sn,.int .i64 su,.string srn,.int .i64 sri,.slice sp sm sk] 26)) (GK J Jx Jp W0 l (W0.heap.size+1) W0.heap.size (3+ccs.length+8*i+6) (fun O U=>(LD (W0.heap.size+1) bx row 66) O U∧Dc O U))):=yb (fun V hV=>by
      have h:=E6 HC.o hn HKn.o hV AY (!le) [[.int .i64 so,.int .i64 sn,.int .i64 su,.string srn,.int .i64 sri,.slice sp sm sk]] (by intro c hc;rw[zn.1 hc];exact H3x.o) (by simp) (by rw[HX.o];exact HIx3.o)
      simp only[zt,xm,yU,yz,yH,yy,Nat.reduceAdd] at h
      exact h)
     have HPE:Hid (∀(V:World) (g:Nat),Hj J Jx W0 l (W0.heap.size+1) W0.heap.size (3+ccs.length+8*i+5) (fun O U=>((LD (W0.heap.size+1) bx row 66) O U∧Dc O U)∧LD (W0.heap.size+1) g [.int .i64 so,.int .i64 sn,.int .i64 su,.string srn,.int .i64 sri,.slice sp sm sk] 26 O U) V->Calls Tryz.prog 75 #[.agg #[.int .i64 1,.int .i64 0,.int .i64 0],.bool (!le),.slice (some ⟨g,0,none⟩) 1 1,.pointer (some ⟨W0.heap.size+1,0,none⟩),.pointer (some ⟨W0.heap.size,0,none⟩)] V (GK J Jx Jp W0 l (W0.heap.size+1) W0.heap.size (3+ccs.length+8*i+6) (fun O U=>(LD (W0.heap.size+1) bx row 66) O U∧Dc O U))):=yb (fun V g hV=>by
      have h:=SO HC.o hn HKn.o AY (!le) [[.int .i64 so,.int .i64 sn,.int .i64 su,.string srn,.int .i64 sri,.slice sp sm sk]] (g:=g) (by simpa using hV) (by intro c hc;rw[zn.1 hc];exact H3x.o) (by simp) (by rw[HX.o];exact HIx3.o)
      simp only[yz,yH,yy,Nat.reduceAdd] at h
      exact h)
     have HRd:Hid (Hj J Jx W0 l (W0.heap.size+1) W0.heap.size (3+ccs.length+8*i+5) (fun O U=>(LD (W0.heap.size+1) bx row 66) O U∧Dc O U) wr.drew):=yb (HRn.o.below HC.o HKn.o (yg _ _).drew)
     have HRa:=yb (HRn.o.box2 HC.o HKn.o [.int .i64 so,.int .i64 sn,.int .i64 su,.string srn,.int .i64 sri,.slice sp sm sk] 26)
     clear HR HRn hd3 HAb
     go_cut [] from 79 to 88 (fun wx=>Hid (Hj J Jx W0 l (W0.heap.size+1) W0.heap.size (3+ccs.length+8*i+6) (LD (W0.heap.size+1) bx row 66) wx))
     case first=>
      have HKb:=yb (N9 HKn.o (DT (W0.heap.size+1) wr.heap.size [.int .i64 so,.int .i64 sn,.int .i64 su,.string srn,.int .i64 sri,.slice sp sm sk] 26))
      have HRad:=yb (HRa.o.below HC.o HKb.o (yg _ _).drew)
      have HSn:Hid (∀(k:Nat) (P:(Nat->Prop)->World->Prop) (V:World),Hj J Jx W0 l (W0.heap.size+1) W0.heap.size k (fun O U=>((LD (W0.heap.size+1) bx row 66) O U∧Dc O U)∧P O U) V->Hj J Jx W0 l (W0.heap.size+1) W0.heap.size k (fun O U=>(LD (W0.heap.size+1) bx row 66) O U∧Dc O U) V):=yb (fun k P V h=>by obtain ⟨O,h1,h2⟩:=h;exact ⟨O,h1,h2.1⟩)
      have HSd:=yb (HSR.o _ _ _ HRd.o)
      have HSad:=yb (HSR.o _ _ _ (HSn.o _ _ _ HRad.o))
      have HSa:=yb (HSR.o _ _ _ (HSn.o _ _ _ HRa.o))
      go_region_held2 (fun w'=>w'.cell? ⟨1,0,none⟩=some (.int .i64 1)∧w'.cell? ⟨1,1,none⟩=some (.int .i64 0)∧w'.cell? ⟨1,2,none⟩=some (.int .i64 0)∧w'.cell? ⟨bx,21,none⟩=some (.int .i64 so)∧w'.cell? ⟨bx,22,none⟩=some (.int .i64 sn)∧w'.cell? ⟨bx,23,none⟩=some (.int .i64 su)∧w'.cell? ⟨bx,24,none⟩=some (.string srn)∧w'.cell? ⟨bx,25,none⟩=some (.int .i64 sri)∧w'.cell? ⟨bx,26,none⟩=some (.slice sp sm sk)) (first|with_reducible exact HSd.o|with_reducible exact HS5.o|with_reducible exact HS6.o|with_reducible exact HS5a.o _|with_reducible exact HSad.o|with_reducible exact HSa.o) (first
       |(go_at_call 37;refine (HAb3.o _).mono ?_;rintro e w5 ⟨rfl,hb⟩;(first|(have HR5:=yb (HRd.o.below HC.o HKn.o hb))|(have HE5:=yb (HRad.o.below HC.o HKb.o hb);have HR5:=yb (HSn.o _ _ _ HE5.o)));have HR5a:Hid (∀o:Obj,Hj J Jx W0 l (W0.heap.size+1) W0.heap.size _ (fun O U=>(LD (W0.heap.size+1) bx row 66) O U∧Dc O U) (w5.alloc o)):=yb (fun o=>HR5.o.below HC.o HKn.o ((yg _ _).alloc (yf _) o));have HS5:=yb (HSR.o _ _ _ HR5.o);have HS5a:=yb (fun o:Obj=>HSR.o _ _ _ (HR5a.o o));clear hb)
       |(go_at_call 75;refine (HPE.o _ _ HE5.o).mono ?_;rintro e w6 (⟨rfl,hr⟩|⟨ch,rfl,hp⟩);rotate_left;exact ⟨rfl,.inr ⟨ch,rfl,hp⟩⟩;have HR6:=yb hr;have HS6:=yb (HSR.o _ _ _ HR6.o);clear hr)
       |(go_at_call 75;refine (HPL.o _ HR5.o).mono ?_;rintro e w6 (⟨rfl,hr⟩|⟨ch,rfl,hp⟩);rotate_left;exact ⟨rfl,.inr ⟨ch,rfl,hp⟩⟩;have HR6:=yb hr;have HS6:=yb (HSR.o _ _ _ HR6.o);clear hr))
      all_goals
       go_wp2
       go_meet
       case rel=>exact yb (by obtain ⟨O,h1,h2⟩:=HR6.o;exact ⟨O,h1,h2.1⟩)
     case rest=>
      clear HRd HRa HPE HPL HKn HIx3 H3x HSR HAb3
      have HR:=hcut
      clear hcut
      generalize wc=wr at HR ⊢
      go_upto_region 17 with fail
      have HHw:=yb (HHd.o _ _ _ HR.o)
      have HPut:Hid (Calls Tryz.prog 75 #[.agg #[.int .i64 0,.int .i64 0,.int .i64 0],.bool true,.slice (some ⟨wr.heap.size,0,none⟩) 2 2,.pointer (some ⟨W0.heap.size+1,0,none⟩),.pointer (some ⟨W0.heap.size,0,none⟩)] (wr.alloc (.cells ((d6++d7)).toArray 26)) (GK J Jx Jp W0 l (W0.heap.size+1) W0.heap.size (3+ccs.length+8*i+6+2) (LD (W0.heap.size+1) bx row 66))):=yb (by
       have h:=E6 HC.o hn (DT _ _ _ _) HR.o O5 true [d6,d7] (by intro c hc;simp only[yO,za,zP] at hc;rcases hc with rfl|rfl<;>first|exact H6.o.2.2.2.2.2.2.1|exact H6.o.2.2.2.2.2.2.2) (by simp) (by
        rw[HX.o]
        exact HIx.o.2.2.2.2)
       simp only[zt,xm,yU,yz,yH,yy,Nat.reduceAdd] at h
       exact h)
      have HGl:Hid (wr.rangeAt 4 0 [.int .i64 0,.int .i64 0,.int .i64 0]):=yb (Cn HHw.o (HM.o.gb 4 (by omega)) HM.o.gu.none)
      have HLd0:Hid (wr.rangeAt bx 39 d6):=yb (by obtain ⟨O, -, -, -,h⟩:=HR.o;exact (HRr.o _ h).2.2.2.2.2.2.1)
      have HLd1:Hid (wr.rangeAt bx 45 d7):=yb (by obtain ⟨O, -, -, -,h⟩:=HR.o;exact (HRr.o _ h).2.2.2.2.2.2.2)
      clear HHw
      go_wp2_with (first
       |(with_reducible refine yj rfl 68 _ rfl 4 0 (by kernel_rfl) [.int .i64 0,.int .i64 0,.int .i64 0] _ HGl.o j9 (by kernel_rfl) (by kernel_rfl) ?_)
       |(with_reducible refine yj rfl 26 _ rfl (bx) 39 (by kernel_rfl) d6 _ HLd0.o qP (by kernel_rfl) (QH (H6.o.2.2.2.2.2.2.1).len) ?_;clear HLd0)
       |(with_reducible refine yj rfl 26 _ rfl (bx) 45 (by kernel_rfl) d7 _ HLd1.o qP (by kernel_rfl) (QH (H6.o.2.2.2.2.2.2.2).len) ?_;clear HLd1)
       |(with_reducible refine Iw rfl 24 26 _ _ rfl d6 d7 (by kernel_rfl) (by kernel_rfl) 6 qO (by kernel_rfl) (H6.o.2.2.2.2.2.2.1).len (H6.o.2.2.2.2.2.2.2).len (by omega) (by omega) ?_)
       |(go_at_call 75;refine HPut.o.mono ?_;rintro e w2 (⟨rfl,hr⟩|⟨ch,rfl,hp⟩);rotate_left;exact ⟨rfl,.inr ⟨ch,rfl,hp⟩⟩;have HR2:=yb hr;clear hr))
      clear HPut HGl HR
      rw[HWi.o]
      exact ⟨⟨i+1,by omega,rfl,yb HR2.o.no⟩,by simp[intOf];omega⟩
    ·obtain rfl:i=ln:=by omega
     have hki:decide ((i:Int) < (i:Int))=false:=by simp
     have HRe:Hid (Hj J Jx W0 l (W0.heap.size+1) W0.heap.size (3+ccs.length+8*rcs.length) Dc wr):=yb (by have h:=HR.o;rw[HNh.o] at h;exact h)
     clear HR HLh
     go_wp2
     refine hK.o _ _ ?_
     clear hK
     have HR:=HRe
     clear HRe HNh
     have HHw:=yb (HHd.o _ _ _ HR.o)
     have hhd:=Ic HHw.o HM.o.bs HM.o.k22
     obtain ⟨lh,hlh⟩:∃h,h=L.farms:=⟨_,rfl⟩
     rw[<-hlh] at hhd
     have HLh:=yb hlh
     have HNh:Hid (lh.n=fcs.length):=yb (by rw[hlh];exact HM.o.farms.1)
     clear hlh HHw
     obtain ⟨la,ln,lc⟩:=lh
     unfold Aw.v at hhd
     dsimp only at hhd HNh
     refine Ab fun K hK=>?_
     go_wp2_with fail
     clear hhd
     go_loopw [103] (fun iv wr=>∃i:Nat,i<=ln∧iv=.int .i64 i∧Hid (Hj J Jx W0 l (W0.heap.size+1) W0.heap.size (3+ccs.length+8*rcs.length+i) Dc wr)) (fun iv _=>ln - (intOf iv).toNat)
     case atStart=>exact ⟨0,yI _,rfl,HR⟩
     case round=>
      clear HR
      obtain ⟨i,hi,rfl,HR⟩:=hrel
      by_cases hlt:i < ln
      ·have hil:i < fcs.length:=by have:=HNh.o;omega
       have hwi:wrap64 ((i:Int)+1)=((i+1:Nat):Int):=by
        have:=HM.o.small
        rw[AH (by omega)];push_cast;rfl
       have HWi:=yb hwi
       clear hwi
       obtain ⟨b,o,nm,rf,rv,rf2,hla,hNb,hrg,h6,hfr⟩:=HM.o.farms.2 i hil
       rw[<-HLh.o] at hla
       dsimp only at hla
       subst hla
       have H6:=yb h6
       have hix:=QK (c0:=c0) (c1:=c1) (c2:=c2) (ccs:=ccs) (rcs:=rcs) hil
       rw[hfr] at hix
       have HIx:=yb hix
       clear hix hfr
       generalize fcs[i].2=cc at hrg H6 HIx
       clear h6
       obtain ⟨row,hrow⟩:∃r:List Value,r=.string nm::(AU rf++(.bool rv::(cc++AU rf2))):=⟨_,rfl⟩
       rw[<-hrow] at hrg
       have HRow:=yb hrow
       have HL:Hid (row.length=12):=yb (by rw[hrow];simp[AU,H6.o.len])
       have HOne:Hid (∀v∈row,v.oneCell'=true):=yb (by rw[hrow];exact BZ rfl (AG (Er _) (BZ rfl (AG (EC H6.o) (Er _)))))
       have HHw:=yb (HHd.o _ _ _ HR.o)
       have HRg:=yb (Cn HHw.o hNb hrg)
       have HRB:=yb (HR.o.box HC.o row 94)
       have hki:(i:Int) < (ln:Int):=by omega
       clear hrow hrg HHw hNb
       go_upto_region 22 with (first
        |(with_reducible refine yj rfl 94 _ rfl b (o+i*12) (by kernel_rfl) row _ HRg.o jf (by kernel_rfl) (by rw[HL.o];kernel_rfl) ?_)
        |(with_reducible refine ze rfl 94 _ _ rfl wr.heap.size row.toArray (by kernel_rfl) (by kernel_rfl) 94 _ (World.alloc_heap_new _ _) (by rw[yM,HL.o];kernel_rfl) (by simp[HL.o]) (zb HOne.o) ?_;rw[World.setRow_alloc_new]))
       generalize hbx:wr.heap.size=bx at HRB ⊢
       clear hbx HR HRg
       have HR:=HRB
       clear HRB
       generalize wr.alloc _=wr at HR ⊢
       have hrv:wr.cell? ⟨bx,3,none⟩=some (.bool rv):=by
        obtain ⟨O, -, -, -,h⟩:=HR.o
        exact Cm (pre:=.string nm::AU rf) (c:=[.bool rv]) (post:=cc++AU rf2) h (by rw[HRow.o];simp) rfl 0 _ rfl
       have HHw:=yb (HHd.o _ _ _ HR.o)
       have HPut:Hid (Calls Tryz.prog 75 #[.agg #[.int .i64 0,.int .i64 0,.int .i64 1],.bool (!rv),.slice (some ⟨wr.heap.size,0,none⟩) 1 1,.pointer (some ⟨W0.heap.size+1,0,none⟩),.pointer (some ⟨W0.heap.size,0,none⟩)] (wr.alloc (.cells (cc).toArray 26)) (GK J Jx Jp W0 l (W0.heap.size+1) W0.heap.size (3+ccs.length+8*rcs.length+i+1) (LD (W0.heap.size+1) bx row 94))):=yb (by
        have h:=E6 HC.o hn (DT _ _ _ _) HR.o GI (!rv) [cc] (by intro c hc;simp only[yO,za,zP] at hc;rcases hc with rfl<;>first|exact H6.o) (by simp) (by
         rw[HX.o]
         exact HIx.o)
        simp only[zt,xm,yU,yz,yH,yy,Nat.reduceAdd] at h
        exact h)
       have HGl:Hid (wr.rangeAt 5 0 [.int .i64 0,.int .i64 0,.int .i64 1]):=yb (Cn HHw.o (HM.o.gb 5 (by omega)) HM.o.gu.ares)
       have HLd0:Hid (wr.rangeAt bx 4 cc):=yb (by obtain ⟨O, -, -, -,h⟩:=HR.o;exact Cm (pre:=.string nm::(AU rf++[.bool rv])) (post:=AU rf2) h (by rw[HRow.o];simp) rfl)
       clear HHw
       go_wp2_with (first
        |(with_reducible refine yj rfl 68 _ rfl 5 0 (by kernel_rfl) [.int .i64 0,.int .i64 0,.int .i64 1] _ HGl.o j9 (by kernel_rfl) (by kernel_rfl) ?_)
        |(with_reducible refine yj rfl 26 _ rfl (bx) 4 (by kernel_rfl) cc _ HLd0.o qP (by kernel_rfl) (QH (H6.o).len) ?_;clear HLd0)
        |(with_reducible refine DH rfl 24 26 _ rfl cc (by kernel_rfl) 6 qO (by kernel_rfl) (H6.o).len (by omega) (by omega) ?_)
        |(go_at_call 75;refine HPut.o.mono ?_;rintro e w2 (⟨rfl,hr⟩|⟨ch,rfl,hp⟩);rotate_left;exact ⟨rfl,.inr ⟨ch,rfl,hp⟩⟩;have HR2:=yb hr;clear hr))
       clear HPut HGl HR
       rw[HWi.o]
       exact ⟨⟨i+1,by omega,rfl,yb HR2.o.no⟩,by simp[intOf];omega⟩
      ·obtain rfl:i=ln:=by omega
       have hki:decide ((i:Int) < (i:Int))=false:=by simp
       have HRe:Hid (Hj J Jx W0 l (W0.heap.size+1) W0.heap.size (3+ccs.length+8*rcs.length+fcs.length) Dc wr):=yb (by have h:=HR.o;rw[HNh.o] at h;exact h)
       clear HR HLh
       go_wp2
       refine hK.o _ _ ?_
       clear hK
       have HR:=HRe
       clear HRe HNh
       have HHw:=yb (HHd.o _ _ _ HR.o)
       have h23:=Ic HHw.o HM.o.bs HM.o.k23
       have h24:=Ic HHw.o HM.o.bs HM.o.k24
       have h25:=Ic HHw.o HM.o.bs HM.o.k25
       unfold Aw.v at h23 h24 h25
       rw[HM.o.nn.1] at h23
       rw[HM.o.nn.2.1] at h24
       rw[HM.o.nn.2.2] at h25
       iterate 2
        refine Ab fun K hK=>?_
        go_wp2
        refine qC 1 ?_
        rw[qg]
        go_wp2
        refine hK.o _ _ ?_
        clear hK
       go_wp2
       refine qC 1 ?_
       rw[qg]
       go_wp2
       refine bodyPost_end (zs rfl _ _ _) rfl (.inl ⟨⟨_,rfl⟩,?_⟩)
       obtain ⟨O,h1, -⟩:=HR.o
       have hlen:X.length=3+ccs.length+8*rcs.length+fcs.length:=by
        rw[HX.o];unfold DA Ja
        simp only[yn,yz,yH,yV,GG];omega
       rw[hlen]
       exact h1.st.imp (fun h=>⟨O,h.2⟩) (fun h=>⟨O,h.2⟩)
end Go.Proofs.YtjofgpfocadomaaGreatDoor
