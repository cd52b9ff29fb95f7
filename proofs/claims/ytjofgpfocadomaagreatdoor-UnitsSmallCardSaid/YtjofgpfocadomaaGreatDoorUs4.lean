/- Parts of the proof, in short words: Of Og Oh Nh Ni Qa Pa Pb Pc Pd Pg Ph Pi Pj Pk Pf -/
import Derived.Test.YtjofgpfocadomaaGreatDoorUs0
import Derived.Test.YtjofgpfocadomaaGreatDoorUs2
import Derived.Deep.Cut
import Derived.Deep.RegionHeld2
import Derived.StillTailTactics
import Derived.Test.YtjofgpfocadomaaGreatDoorUs3
import Derived.BigFrameIn
import Derived.Lib.SliceRun
import Derived.Deep.RegionHeld3
set_option maxRecDepth 100000
set_option maxHeartbeats 32000000
set_option linter.unusedSimpArgs false
namespace Go.Proofs.YtjofgpfocadomaaGreatDoor
open Go.RowKit
structure UA (n l By Bi B0:Nat) (O:Nat->Prop) (X:List Us) (w0:World) (C:Addr->Prop) (J:Nat->(Nat->Prop)->World->Prop) (Jx:(Nat->Prop)->World->Prop) (Jp:List PanicEntry->(Nat->Prop)->World->Prop):Prop where
 stays:Ca J
 hd:∀k O W,J k O W->∀p,C p->W.cell? p=w0.cell? p
 hdx:∀O W,Jx O W->∀p,C p->W.cell? p=w0.cell? p
 round:∀k (hk:k < X.length) W,IV J O B0 l By Bi k W->YieldAt Fence.wide (n - 1) Tryz.prog l X[k].v W (JS J Jx Jp O (k+1) W)
theorem P7(n:Nat)(hn:1<=n)(l By Bi B0:Nat)(lt:Int)(hlt:0<=lt∧lt<=1000000)(O:NP)(X:List Us)(w0:World)(C:Addr->Prop)(J:Nat->NP->World->Prop)(Jx:NP->World->Prop)(Jp:List PanicEntry->NP->World->Prop)
 (hc:UA n l By Bi B0 O X w0 C J Jx Jp):∀(e:Ex) (b o:Nat) (pre:List Us) (W:World),IV J O B0 l By Bi pre.length W->R5 w0 C e b o->(∃post,X=pre++((BX w0 lt e b o).1++post))->
   ((BX w0 lt e b o).2=false->∀W',J (pre.length+(BX w0 lt e b o).1.length) O W'->Jp (Er 170) O W')->
   Calls Tryz.prog 71 #[.pointer (some ⟨b,o,none⟩),.int .i64 lt,.pointer (some ⟨By,0,none⟩),.pointer (some ⟨Bi,0,none⟩)] W (Nt J Jx Jp O (pre.length+(BX w0 lt e b o).1.length) (BX w0 lt e b o).2 W):=by
 refine IQ fun op nn u rn ri args ih=>?_
 intro b o pre W hi hR hX hbad
 rw[R5] at hR
 obtain ⟨a,cap,⟨c0,C0⟩,⟨c5,C5⟩,hl,hrow⟩:=hR
 have HC:=yb hc
 have HI:=yb hi
 have HX:=yb hX
 have HBad:=yb hbad
 have IH:=yb ih
 have HRow:=yb hrow
 have HC5:=yb C5
 have w0c:=(hc.hd _ _ _ hi.j _ C0).trans c0
 have w5c:=(hc.hd _ _ _ hi.j _ C5).trans c5
 have y0:=hi.y.2
 have H5:=yb c5
 have a0:(W.alloc (.cells #[.pointer (some ⟨b,o+3,none⟩),.int .i64 0,.int .i64 0] 89)).cell? ⟨b,o,none⟩=some (.int .i64 op):=((yg W.heap.size W).alloc (yf _) _).cell (p:=⟨b,o,none⟩) (yO W _ w0c) |>.trans w0c
 have HE:Hid (BX w0 lt (.mk op nn u rn ri args) b o=if Nc op args.length then (⟨b,o+3,Lq op lt,OX op lt,rn,ri⟩::(Bp w0 lt args (some (.slice a args.length cap)) 0).1,(Bp w0 lt args (some (.slice a args.length cap)) 0).2) else ([],false)):=yb (by rw[BX,c5])
 generalize hP:BX w0 lt (.mk op nn u rn ri args) b o=P at*
 clear hP
 generalize hm:args.length=m at*
 have Hm:=yb hm
 clear hm hc hi hX hbad ih hrow C0 C5 c0 c5
 by_cases h1:1<=op
 rotate_left
 ·have HF:Hid (P=([],false)):=yb (by rw[HE.o];simp[Nc,h1])
  go_enter Tryz.func71,Tryz.ntmps71
  go_wp2_with (first|(go_at_call 69;refine (Cj _ _).mono ?_;rintro e w5 ⟨rfl,rfl⟩))
  exact ⟨rfl,.inr ⟨_,rfl,HBad.o (by rw[HF.o]) _ (by rw[HF.o];exact HI.o.j),AO.refl _ _⟩⟩
 by_cases h6:op<=6
 rotate_left
 ·have HF:Hid (P=([],false)):=yb (by rw[HE.o];simp[Nc,h6])
  go_enter Tryz.func71,Tryz.ntmps71
  go_wp2_with (first|(go_at_call 69;refine (Cj _ _).mono ?_;rintro e w5 ⟨rfl,rfl⟩))
  exact ⟨rfl,.inr ⟨_,rfl,HBad.o (by rw[HF.o]) _ (by rw[HF.o];exact HI.o.j),AO.refl _ _⟩⟩
 go_enter Tryz.func71,Tryz.ntmps71
 go_upto_if 30 with (first|(go_at_call 69;refine (Cp _ _).mono ?_;rintro e w5 ⟨rfl,rfl⟩))
 go_cut [31] from 22 (fun _ w'=>Hid (Below w5.heap.size w5 w'∧w'.heap[w5.heap.size]?=some (.cells #[.pointer (some ⟨b,o+3,none⟩),.int .i64 (Lq op lt),.int .i64 (OX op lt)] 89 (0,0))))
 case first=>
  go_wp2
  all_goals
   go_meet
   case rel=>exact yb ⟨(yg _ _).alloc (yf _) _,by rw[World.alloc_heap_new];simp_all[Lq,OX]<;>omega⟩
 clear a0
 have HBc:=yb hcut.o.1
 have HUc:=yb hcut.o.2
 have b0:=(HBc.o.cell (p:=⟨b,o,none⟩) (yO w5 _ w0c)).trans w0c
 have b5:=(HBc.o.cell (p:=⟨b,o+5,none⟩) (yO w5 _ w5c)).trans w5c
 have HIc:=yb (HI.o.below HC.o.stays HBc.o)
 clear hcut w0c w5c
 go_upto_if 42 with fail
 go_cut [31] from 22 (fun _ w'=>Hid (w'=wc∧Nc op m=true))
 case first=>
  by_cases h3:3<=op
  ·by_cases h2:m=2
   ·have hb2:((m:Int)==2)=true:=by simp;omega
    have HOk:Hid (Nc op m=true):=yb (by simp[Nc,h1,h6,h3,h2])
    clear h2
    go_wp2_with (first|(go_at_call 69;refine (Cp _ _).mono ?_;rintro e w6 ⟨rfl,rfl⟩))
    go_meet
    case rel=>exact yb ⟨rfl,HOk.o⟩
   ·have hb2:((m:Int)==2)=false:=by simp;omega
    have HF:Hid (P=([],false)):=yb (by rw[HE.o];simp[Nc,h3,h2])
    clear h2
    go_wp2_with (first|(go_at_call 69;refine (Cj _ _).mono ?_;rintro e w6 ⟨rfl,rfl⟩))
    exact ⟨rfl,.inr ⟨_,rfl,HBad.o (by rw[HF.o]) _ (by rw[HF.o];exact HIc.o.j),HI.o.sameBelow HBc.o⟩⟩
  ·by_cases h2:m=0
   ·have hb2:((m:Int)==0)=true:=by simp;omega
    have HOk:Hid (Nc op m=true):=yb (by simp[Nc,h1,h6,h3,h2])
    clear h2
    go_wp2_with (first|(go_at_call 69;refine (Cp _ _).mono ?_;rintro e w6 ⟨rfl,rfl⟩))
    go_meet
    case rel=>exact yb ⟨rfl,HOk.o⟩
   ·have hb2:((m:Int)==0)=false:=by simp;omega
    have HF:Hid (P=([],false)):=yb (by rw[HE.o];simp[Nc,h3,h2])
    clear h2
    go_wp2_with (first|(go_at_call 69;refine (Cj _ _).mono ?_;rintro e w6 ⟨rfl,rfl⟩))
    exact ⟨rfl,.inr ⟨_,rfl,HBad.o (by rw[HF.o]) _ (by rw[HF.o];exact HIc.o.j),HI.o.sameBelow HBc.o⟩⟩
 obtain ⟨rfl,hok⟩:=hcut.o
 have HP:Hid (P=(⟨b,o+3,Lq op lt,OX op lt,rn,ri⟩::(Bp w0 lt args (some (.slice a m cap)) 0).1,(Bp w0 lt args (some (.slice a m cap)) 0).2)):=yb (by rw[HE.o,hok];rfl)
 have hk:pre.length < X.length:=by
  obtain ⟨post,hx⟩:=HX.o
  rw[hx,HP.o];simp
 have hxk:X[pre.length].v=#[.agg #[.pointer (some ⟨b,o+3,none⟩),.int .i64 (Lq op lt),.int .i64 (OX op lt)]]:=by
  obtain ⟨post,hx⟩:=HX.o
  have:X[pre.length]?=some ⟨b,o+3,Lq op lt,OX op lt,rn,ri⟩:=by rw[hx,HP.o];simp
  rw[yk hk] at this
  rw[yi this];rfl
 obtain ⟨yfn,ytmps,yassign,ybody,hy,hyR⟩:=HC.o.round pre.length hk _ HIc.o
 rw[hxk] at hy
 have HyR:=yb hyR
 have q0:wc.cell? ⟨w5.heap.size,0,none⟩=some (.pointer (some ⟨b,o+3,none⟩)):=by simp[World.cell?,HUc.o]
 have q1:wc.cell? ⟨w5.heap.size,1,none⟩=some (.int .i64 (Lq op lt)):=by simp[World.cell?,HUc.o]
 have q2:wc.cell? ⟨w5.heap.size,2,none⟩=some (.int .i64 (OX op lt)):=by simp[World.cell?,HUc.o]
 have q3:=HIc.o.y.2
 clear hk hxk hyR hcut hok
 go_upto_region 10 with fail
 refine (xZ (n:=n)).1 ?_
 gi_wp2
 refine HyR.o.mono ?_
 rintro e W3 (⟨rfl,hj,hs⟩|⟨rfl,hx,hs⟩|⟨ch,rfl,hp,hs⟩)
 rotate_left
 ·have HX3:=yb hx
  have HS3:=yb ((HI.o.sameBelow HBc.o).trans hs)
  clear hx hs q0 q1 q2 q3 hy b0 b5
  gi_wp2
  go_wp2
  go_ret
  exact .inl ⟨false,rfl,HS3.o,.inr ⟨rfl,HX3.o⟩⟩
 ·exact ⟨rfl,.inr ⟨ch,rfl,hp,(HI.o.sameBelow HBc.o).trans hs⟩⟩
 have HI3:=yb (HIc.o.same hj hs)
 have HS3:=yb ((HI.o.sameBelow HBc.o).trans hs)
 have d5:=(HC.o.hd _ _ _ hj _ HC5.o).trans H5.o
 clear hj hs q0 q1 q2 q3 hy b0 b5
 gi_wp2
 go_wp2
 clear d5
 go_loopw [66] (fun iv wr=>∃i:Nat,iv=.int .i64 i∧i<=m∧Hid (IV J O B0 l By Bi (pre.length+1+(Bp w0 lt (args.take i) (some (.slice a m cap)) 0).1.length) wr)∧Hid (AO O w5 wr)∧Hid ((Bp w0 lt (args.take i) (some (.slice a m cap)) 0).2=true)) (fun iv _=>m - (intOf iv).toNat)
 case atStart=>exact ⟨0,rfl,yH _,HI3,HS3,yb rfl⟩
 case round=>
  obtain ⟨i,rfl,hi,HIr,HSr,HOr⟩:=hrel
  by_cases hlt:i < m
  ·have hil:i < args.length:=by rw[Hm.o];exact hlt
   obtain ⟨b',o',rfl,hex⟩:=Ns HRow.o i hil
   rw[yw] at hex
   have hn1:=R6 hil HOr.o
   have HNx:=yb hn1
   have HXs:Hid (∃post,X=(pre++(⟨b,o+3,Lq op lt,OX op lt,rn,ri⟩::(Bp w0 lt (args.take i) (some (.slice (some ⟨b',o',none⟩) m cap)) 0).1))++((BX w0 lt args[i] b' (o'+i*6)).1++post)):=yb (by
    obtain ⟨post,hx⟩:=HX.o
    obtain ⟨post2,hp2⟩:=Nr (w:=w0) (lt:=lt) (b:=b') (o:=o') (n:=m) (c:=cap) (args.take (i+1)) (args.drop (i+1)) 0
    rw[zO,hn1] at hp2
    refine ⟨post2++post,?_⟩
    rw[hx,HP.o]
    simp only[hp2]
    simp)
   have HBs:Hid ((BX w0 lt args[i] b' (o'+i*6)).2=false->∀W',J ((pre++(⟨b,o+3,Lq op lt,OX op lt,rn,ri⟩::(Bp w0 lt (args.take i) (some (.slice (some ⟨b',o',none⟩) m cap)) 0).1)).length+(BX w0 lt args[i] b' (o'+i*6)).1.length) O W'->Jp (Er 170) O W'):=yb (fun hf W' hj=>by
    have hst:=LW (w:=w0) (lt:=lt) (b:=b') (o:=o') (n:=m) (c:=cap) (args.take (i+1)) (args.drop (i+1)) 0 (by rw[hn1];exact hf)
    rw[zO,hn1] at hst
    refine HBad.o (by rw[HP.o];simp only[hst];exact hf) W' ?_
    rw[HP.o]
    simp only[hst]
    have e1:pre.length+(⟨b,o+3,Lq op lt,OX op lt,rn,ri⟩::((Bp w0 lt (args.take i) (some (.slice (some ⟨b',o',none⟩) m cap)) 0).1++(BX w0 lt args[i] b' (o'+i*6)).1)).length=(pre++(⟨b,o+3,Lq op lt,OX op lt,rn,ri⟩::(Bp w0 lt (args.take i) (some (.slice (some ⟨b',o',none⟩) m cap)) 0).1)).length+(BX w0 lt args[i] b' (o'+i*6)).1.length:=by simp;omega
    rw[e1];exact hj)
   have HCl:=yb (fun (W:World) (hW:IV J O B0 l By Bi (pre.length+1+(Bp w0 lt (args.take i) (some (.slice (some ⟨b',o',none⟩) m cap)) 0).1.length) W)=>IH.o args[i] (yJ hil) b' (o'+i*6) (pre++(⟨b,o+3,Lq op lt,OX op lt,rn,ri⟩::(Bp w0 lt (args.take i) (some (.slice (some ⟨b',o',none⟩) m cap)) 0).1)) W (by
    have e1:(pre++(⟨b,o+3,Lq op lt,OX op lt,rn,ri⟩::(Bp w0 lt (args.take i) (some (.slice (some ⟨b',o',none⟩) m cap)) 0).1)).length=pre.length+1+(Bp w0 lt (args.take i) (some (.slice (some ⟨b',o',none⟩) m cap)) 0).1.length:=by simp;omega
    rw[e1];exact hW) hex HXs.o HBs.o)
   have HNl:Hid ((pre++(⟨b,o+3,Lq op lt,OX op lt,rn,ri⟩::(Bp w0 lt (args.take i) (some (.slice (some ⟨b',o',none⟩) m cap)) 0).1)).length+(BX w0 lt args[i] b' (o'+i*6)).1.length=pre.length+1+(Bp w0 lt (args.take (i+1)) (some (.slice (some ⟨b',o',none⟩) m cap)) 0).1.length):=yb (by rw[hn1];simp;omega)
   have HNo:Hid ((Bp w0 lt (args.take (i+1)) (some (.slice (some ⟨b',o',none⟩) m cap)) 0).2=(BX w0 lt args[i] b' (o'+i*6)).2):=yb (by rw[hn1])
   have HIr1:=yb (HIr.o.below HC.o.stays ((yg wr.heap.size wr).drew))
   have hki:(i:Int) < (m:Int):=by omega
   have e5:=(HC.o.hd _ _ _ HIr.o.j _ HC5.o).trans H5.o
   have eB:=HIr.o.i.2
   have HS1:Hid (wr.drew.cell? ⟨Bi,0,none⟩=some (.func (.func 71) #[] #[.pointer (some ⟨By,0,none⟩),.pointer (some ⟨Bi,0,none⟩)])∧wr.drew.cell? ⟨b,o+5,none⟩=some (.slice (some ⟨b',o',none⟩) m cap)):=yb ⟨HIr1.o.i.2,(HC.o.hd _ _ _ HIr1.o.j _ HC5.o).trans H5.o⟩
   have HSd:=yb (HSr.o.trans (HIr.o.sameBelow ((yg wr.heap.size wr).drew)))
   clear hn1 hex
   go_wp2_with fail
   go_region_held2 (fun w'=>w'.cell? ⟨Bi,0,none⟩=some (.func (.func 71) #[] #[.pointer (some ⟨By,0,none⟩),.pointer (some ⟨Bi,0,none⟩)])∧w'.cell? ⟨b,o+5,none⟩=some (.slice (some ⟨b',o',none⟩) m cap)) (first|exact HS1.o|exact HS2.o)
    (first|(go_at_call 71;refine (HCl.o _ HIr1.o).mono ?_;rintro e w2 (⟨r,rfl,hs2,hr⟩|⟨ch,rfl,hp,hs2⟩);rotate_left;exact ⟨rfl,.inr ⟨ch,rfl,hp,HSd.o.trans hs2⟩⟩;have HS2:=yb (And.intro (CS hs2 HIr1.o.i.1 HIr1.o.i.2) (hr.elim (fun h=>(HC.o.hd _ _ _ h.2.2 _ HC5.o).trans H5.o) (fun h=>(HC.o.hdx _ _ h.2 _ HC5.o).trans H5.o)));have HR:=yb hr;have HSw:=yb hs2;clear hr hs2))
   rcases HR.o with ⟨rfl,hok2,hj2⟩|⟨rfl,hx2⟩
   ·have HJ2:=yb hj2
    have HO2:=yb hok2
    clear hok2 hj2 HR e5 eB
    go_wp2
    exact ⟨⟨i+1,by push_cast;rfl,by omega,yb (by rw[<-HNl.o];exact HIr1.o.same HJ2.o HSw.o),yb (HSd.o.trans HSw.o),yb (by rw[HNo.o];exact HO2.o)⟩,by simp[intOf];omega⟩
   ·have HX2:=yb hx2
    clear hx2 HR e5 eB
    go_wp2
    go_ret
    exact .inl ⟨false,rfl,HSd.o.trans HSw.o,.inr ⟨rfl,HX2.o⟩⟩
  ·obtain rfl:i=m:=by omega
   have HFin:Hid (P.2=true∧J (pre.length+P.1.length) O wr):=yb (by
    have h1:=HOr.o
    have h2:=HIr.o.j
    rw[<-Hm.o,yQ] at h1 h2
    rw[HP.o]
    simp only[yv]
    rw[Hm.o] at h1 h2
    exact ⟨h1,by rw[show pre.length+((Bp w0 lt args (some (.slice a i cap)) 0).1.length+1)=pre.length+1+(Bp w0 lt args (some (.slice a i cap)) 0).1.length by omega];exact h2⟩)
   have hki:decide ((i:Int) < (i:Int))=false:=by simp
   go_wp2
   go_ret
   exact .inl ⟨true,rfl,HSr.o,.inl ⟨rfl,HFin.o.1,HFin.o.2⟩⟩
def DE(op n u:Int)(rn:ByteArray)(ri:Int)(m:Nat):Bool:=decide (op=0)&&(decide (n=0)&&(decide (u=0)&&(decide (rn.size=0∧ri=0)&&decide (m=0))))
theorem Ds(s:ByteArray):s.size=0↔s.toList=[]:=by
 rw[xp,<-zr,FB]
theorem Jn(op nn u:Int)(rn:ByteArray)(ri:Int)(a:Option Addr)(m cap:Nat)(w:World):
  Calls Tryz.prog 73 #[.agg #[.int .i64 op,.int .i64 nn,.int .i64 u,.string rn,.int .i64 ri,.slice a m cap]] w fun e w'=>e=.returned (.bool (DE op nn u rn ri m))∧Below w.heap.size w w':=by
 by_cases h0:op=0
 ·by_cases h1:nn=0
  ·by_cases h2:u=0
   ·subst h0 h1 h2
    go_enter Tryz.func73,Tryz.ntmps73
    go_wp2
    ·rename_i h1 h2
     go_ret
     refine ⟨AJ ?_,(yg _ _).alloc (yf _) _⟩
     simp only[DE,xf (show rn.size=0∧ri=0 from ⟨(Ds rn).2 h1,h2⟩)]
     rw[xS];simp
    ·rename_i h1 h2
     go_ret
     refine ⟨AJ ?_,(yg _ _).alloc (yf _) _⟩
     simp only[DE,xk (show ¬ (rn.size=0∧ri=0) from fun h=>h2 h.2)]
     simp
    ·rename_i h1
     go_ret
     refine ⟨AJ ?_,(yg _ _).alloc (yf _) _⟩
     simp only[DE,xk (show ¬ (rn.size=0∧ri=0) from fun h=>h1 ((Ds rn).1 h.1))]
     simp
   ·have b:(u==0)=false:=by simpa using h2
    subst h0 h1
    go_enter Tryz.func73,Tryz.ntmps73
    go_wp2
    go_ret
    exact ⟨AJ (by simp[DE,h2]),(yg _ _).alloc (yf _) _⟩
  ·have b:(nn==0)=false:=by simpa using h1
   subst h0
   go_enter Tryz.func73,Tryz.ntmps73
   go_wp2
   go_ret
   exact ⟨AJ (by simp[DE,h1]),(yg _ _).alloc (yf _) _⟩
 ·have b:(op==0)=false:=by simpa using h0
  go_enter Tryz.func73,Tryz.ntmps73
  go_wp2
  go_ret
  exact ⟨AJ (by simp[DE,h0]),(yg _ _).alloc (yf _) _⟩
def BI(w:World)(X:Value)(n size:Nat)(cells:LV):Prop:=
 cells.length=n*size∧(∀u∈cells,u.oneCell'=true)∧∃a cap,X=.slice a n cap∧(n=0∨∃b o,a=some ⟨b,o,none⟩∧b < w.heap.size∧∀j u,cells[j]?=some u->w.cell? ⟨b,o+j,none⟩=some u)
theorem EF{t e:TypeId}{i:TypeInfo}{size:Nat}(f:Tryz.prog.underlying t=some (.slice e))(hi:Tryz.prog.info? e=some i)(w:World)(B:Nat)(ty:TypeId)(v:Value)(n:Nat)(xs:LV)(b:w.ownsRow B e size v n xs)(a:Option Addr)(c:Nat):
  (Builtin.append_ #[t,t] ty #[v,.slice a 0 c]).run Tryz.prog w=.ok v w:=by
 rcases b.2 with ⟨rfl,_⟩|⟨g,cap,j,rfl,_,_,d,h,_⟩
 ·cases a<;>simp[Builtin.append_,xY f,sizeOf,typeInfo,hi,Builtin.lenOf,Builtin.firstCells,loadCells,loadCellsFrom]
 ·cases a<;>simp[Builtin.append_,xY f,sizeOf,typeInfo,hi,Builtin.lenOf,Builtin.firstCells,storeCells,loadCells,loadCellsFrom,d]
theorem Gr{ops:Array Oper}{o:Oper}{a:Act}{K:Act->World->Prop}{Q:QT}{E:Prop}{W:World}{t e:TypeId}{w:TypeInfo}{z:Value}{size d:Nat}(R:Tryz.prog.underlying t=some (.slice e))(hi:Tryz.prog.info? e=some w)(L:w.zero=some z)(P:w.size=size)(N:w.bytes=d)(O:z.cells.size=size)(G:0 < size)(I:d<=64)
 (B:Nat)(D:o.guard=none)(s x:Operand)(S:o.op=.call {callee:=.builtin .append,args:=#[s,x],argTypes:=#[t,t]})(v:Value)(n:Nat)(xs:LV)(hs:a.eval s=v)(f:W.ownsRow B e size v n xs)
 (X:Value)(m:Nat)(A:LV)(V:a.eval x=X)(Z:BI W X m size A)(r:n+m<=1000000)(l:B<=W.heap.size)
 (h:∀(y:Option Addr) (c:Nat) w',w'.ownsRow B e size (.slice y (n+m) c) (n+m) (xs++A)->W.grownBy w' v.ownBlock->K (a.put o.dst (.slice y (n+m) c)) w'):
  if Region.wanted o (yielded ops a.tmps)=true then Oper.wp Tryz.prog o a W K Q else E:=by
 have hw:Region.wanted o (yielded ops a.tmps)=true:=by simp[Region.wanted,D]
 rw[yD hw]
 obtain ⟨q,H,y,cap,rfl,k⟩:=Z
 by_cases U:m=0
 ·subst U
  obtain rfl:A=[]:=zr.1 (by simpa using q)
  have p:=EF R hi W B o.type v n xs f y cap
  obtain ⟨va,C,rfl⟩:∃a c,v=.slice a n c:=by
   rcases f.2 with ⟨rfl,M⟩|⟨g,cap,J,rfl,_⟩
   ·exact ⟨none,0,by rw[M]⟩
   ·exact ⟨_,_,rfl⟩
  unfold Oper.wp
  simp[execOp,S,resolve,invoke,builtin,hs,V,p,Result.andThen]
  have T:=h va C W (by simpa using f) ⟨rfl,rfl,rfl,yf _,fun _ _ _=>rfl⟩
  rw[qj] at T
  exact T
 ·obtain ⟨b,F,rfl,hb,hc⟩:=k.resolve_left U
  refine wp_append_own W s x t S B e w z size d R hi L P N O G v n xs hs f (aV b F) m cap A V q (fun j u hj=>?_) H (by unfold maxLen;omega) (by
   have:(n+m)*d<=1000000*64:=qn r I
   omega) l ?_
  ·rw[zA];exact hc j u hj
  ·intro v' w' i Y _
   obtain ⟨va,C,rfl⟩:∃a c,v'=.slice a (n+m) c:=by
    rcases i.2 with ⟨rfl,M⟩|⟨g,cap,J,rfl,_⟩
    ·exact ⟨none,0,by rw[M]⟩
    ·exact ⟨_,_,rfl⟩
   exact h va C w' i Y
def AK(u:Us):LV:=[.pointer (some ⟨u.b,u.o,none⟩),.int .i64 u.to,.int .i64 u.at_]
def CD(B:Nat)(w:World)(v:Value)(us:List Us):Prop:=w.ownsRow B 89 3 v us.length (us.flatMap AK)
theorem R7(B:Nat)(w:World):CD B w (.slice none 0 0) []:=⟨rfl,.inl ⟨rfl,rfl⟩⟩
theorem Cx{ops:Array Oper}{o:Oper}{a:Act}{K:Act->World->Prop}{Q:QT}{E:Prop}{W:World}(B:Nat)(k:o.guard=none)(s x:Operand)(r:o.op=.call {callee:=.builtin .append,args:=#[s,x],argTypes:=#[154,154]})
 (v:Value)(us:List Us)(hs:a.eval s=v)(f:CD B W v us)(X:Value)(d:List Us)(t:a.eval x=X)(p:BI W X d.length 3 (d.flatMap AK))(g:us.length+d.length<=1000000)(e:B<=W.heap.size)
 (h:∀(j:Option Addr) (c:Nat) w',CD B w' (.slice j (us.length+d.length) c) (us++d)->W.grownBy w' v.ownBlock->K (a.put o.dst (.slice j (us.length+d.length) c)) w'):
  if Region.wanted o (yielded ops a.tmps)=true then Oper.wp Tryz.prog o a W K Q else E:=by
 have b:(Tryz.prog.info? 89).map (fun i=>(i.zero,i.size,i.bytes))=some (some (.agg #[.pointer none,iV 0,iV 0]),3,24):=by kernel_rfl
 obtain ⟨w,hi,l,n,m⟩:=info_parts b
 exact Gr Tryz.underlying154 hi l n m rfl (by decide) (by decide) B k s x r v us.length _ hs f X d.length _ t p g e (fun j c w' u q=>h j c w' (by
  unfold CD
  rw[yn,zH]
  exact u) q)
theorem Mx{o:Oper}{a:Act}{K:Act->World->Prop}{Q:QT}{W:World}(B:Nat)(e:o.guard=none)(s x:Operand)(k:o.op=.call {callee:=.builtin .append,args:=#[s,x],argTypes:=#[154,154]})
 (v:Value)(us:List Us)(hs:a.eval s=v)(f:CD B W v us)(X:Value)(b:List Us)(m:a.eval x=X)(j:BI W X b.length 3 (b.flatMap AK))(g:us.length+b.length<=1000000)(d:B<=W.heap.size)
 (h:∀(i:Option Addr) (c:Nat) w',CD B w' (.slice i (us.length+b.length) c) (us++b)->W.grownBy w' v.ownBlock->K (a.put o.dst (.slice i (us.length+b.length) c)) w'):Oper.wp Tryz.prog o a W K Q:=by
 have l:=Cx (ops:=#[]) (E:=True) (Q:=Q) B e s x k v us hs f X b m j g d h
 rwa [yD (by simp[Region.wanted,e])] at l
theorem Iq:∀us:List Us,(us.flatMap AK).length=us.length*3
 |[]=>rfl
 |x::r=>by rw[zc,yn,Iq r,yv];simp only[AK,yv,yE];omega
theorem Ge{w':World}{us:List Us}{b:Nat}(hb:w'.heap[b]?=some (.cells (us.flatMap AK).toArray 89 (0,0)))(c:Nat):BI w' (.slice (some ⟨b,0,none⟩) us.length c) us.length 3 (us.flatMap AK):=by
 refine ⟨?_,?_,some (aV b 0),c,rfl,.inr ⟨b,0,rfl,(yd.1 hb).1,fun j u e=>?_⟩⟩
 ·exact Iq us
 ·intro u d
  obtain ⟨x,_,a⟩:=yW.1 d
  simp[AK] at a
  rcases a with rfl|rfl|rfl<;>rfl
 ·simp only[World.cell?,hb]
  simpa using e
def Bw:List (List Us × Bool)->List Us × Bool
 |[]=>([],true)
 |x::r=>if x.2 then (x.1++(Bw r).1,(Bw r).2) else (x.1,false)
theorem Ev:∀(l m:List (List Us × Bool)),Bw (l++m)=if (Bw l).2 then ((Bw l).1++(Bw m).1,(Bw m).2) else Bw l
 |[],m=>by simp[Bw]
 |x::r,m=>by
  simp only[yK,Bw,Ev r m]
  by_cases h1:x.2=true
  ·by_cases h2:(Bw r).2=true
   ·simp[h1,h2]
   ·simp[h1,h2]
  ·simp[h1]
theorem LX{l:List (List Us × Bool)}{k:Nat}(h:k < l.length)(a:(Bw (l.take k)).2=true):Bw (l.take (k+1))=((Bw (l.take k)).1++l[k].1,l[k].2):=by
 rw[yG h,Ev,a,yD rfl]
 simp only[Bw]
 by_cases h1:l[k].2=true
 ·simp[h1]
 ·simp[h1]
theorem Sr(l:List (List Us × Bool))(k:Nat):∃post,(Bw l).1=(Bw (l.take k)).1++post:=by
 have h:=Ev (l.take k) (l.drop k)
 rw[zO] at h
 rw[h]
 by_cases h1:(Bw (l.take k)).2=true
 ·rw[yD h1];exact ⟨_,rfl⟩
 ·rw[yq h1];exact ⟨[],by simp⟩
theorem R9{l:List (List Us × Bool)}{k:Nat}(h:(Bw (l.take k)).2=false):Bw l=Bw (l.take k):=by
 have h2:=Ev (l.take k) (l.drop k)
 rw[zO,h] at h2
 exact h2
def BJ(e:Ex):Bool:=DE e.op e.n e.u e.rn e.ri e.args.length
def Ss(a:Array Value):Addr:=match a.getD 0 undef with
 |.pointer (some p)=>p
 |_=>⟨0,0,none⟩
def Ck(w:World)(a:Array Value)(e:Lp):List Us × Bool:=if BJ e.1 then ([],true) else BX w e.2 e.1 (Ss a).block (Ss a).off
def Dt(w:World)(L:Bq)(x:Ax):List (List Us × Bool):=List.zipWith (Ck w) (BH L) (Ay x)
def CO(a:Addr)(to at_:Int)(r:Rf):Us:=⟨a.block,a.off,to,at_,r.name,r.n⟩
def E8(h:As)(l:List CV)(i:Nat):List Us:=match l[i]? with
 |some d=> [CO (h.at 12 i 1) 4 0 d.on,CO (h.at 12 i 10) (if d.river then 0 else 3) 0 d.crop]
 |none=> []
def EL(h:As)(l:List Cm)(i:Nat):List Us:=match l[i]? with
 |some d=> [CO (h.at 8 i 0) 5 0 d.farm]
 |none=> []
def Gf(L:Bq)(l:List BA)(i:Nat):List Us:=match l[i]? with
 |some d=>CO (L.rots.at 23 i 1) 4 0 d.on::(List.range (A2 L i).n).flatMap (EL (A2 L i) d.turns)
 |none=> []
def CG(h:As)(l:List B6)(i:Nat):List Us:=match l[i]? with
 |some d=> [CO (h.at 37 i 2) 5 0 d.farm,CO (h.at 37 i 4) (if d.kind=1 then 0 else 4) 0 d.reach]
 |none=> []
def DQ(h:As)(l:List D6)(i:Nat):List Us:=match l[i]? with
 |some d=> [CO (h.at 11 i 1) 5 0 d.farm,CO (h.at 11 i 3) 4 0 d.reach]
 |none=> []
def GN(k:Int):Bool:=decide (1<=k)&&decide (k<=3)
def BZ(x:Ax):Bool:=x.rights.all fun d=>GN d.kind
def Cb(L:Bq)(x:Ax):List Us:=
 (((List.range L.farms.n).flatMap (E8 L.farms x.farms)++(List.range L.rots.n).flatMap (Gf L x.rots))++(List.range L.rights.n).flatMap (CG L.rights x.rights))++(List.range L.duties.n).flatMap (DQ L.duties x.duties)
def Ed(w:World)(L:Bq)(x:Ax):List (List Us × Bool):=Dt w L x++[(if BZ x then Cb L x else [],BZ x)]
def BQ(w:World)(L:Bq)(x:Ax):List Us × Bool:=Bw (Ed w L x)
def Vi(N:NP)(w:World)(C D:Addr->Prop)(a:Array Value)(e:Lp):Prop:=
 ∃b o cs,a=#[.pointer (some ⟨b,o,none⟩),.int .i64 e.2]∧w.rangeAt b o cs∧AH N w e.1 cs∧R5 w C e.1 b o∧C ⟨b,o+1,none⟩∧C ⟨b,o+2,none⟩∧C ⟨b,o+3,none⟩∧D ⟨b,o+4,none⟩∧(e.1.op=0->C ⟨b,o+4,none⟩)
structure Kf (N:Nat->Prop) (w:World) (C D:Addr->Prop) (Bu:Nat) (L:Bq) (x:Ax):Prop where
 ok:L.Ok
 heads:Ip L Bu w
 box:C ⟨Bu,0,none⟩
 src:∀j,19<=j->j<=25->C ⟨L.s,j,none⟩
 turns:∀i,i < L.rots.n->C (L.rots.at 23 i 22)
 river:∀i (h:i < x.farms.length),C (L.farms.at 12 i 3)∧w.cell? (L.farms.at 12 i 3)=some (.bool x.farms[i].river)
 kind:∀i (h:i < x.rights.length),C (L.rights.at 37 i 0)∧w.cell? (L.rights.at 37 i 0)=some (.int .i64 x.rights[i].kind)
 top:Az (Vi N w C D) (BH L) (Ay x)
 nfarms:L.farms.n=x.farms.length
 nrots:L.rots.n=x.rots.length
 nturns:∀i (h:i < x.rots.length),(A2 L i).n=x.rots[i].turns.length
 nrights:L.rights.n=x.rights.length
 nduties:L.duties.n=x.duties.length
 few:∀e∈Ay x,0<=e.2∧e.2<=1000000
 short:(Cb L x).length<=1000000
def VM(a:World)(C D:Addr->Prop)(W:World):Prop:=(∀p,C p->W.cell? p=a.cell? p)∧∀p,D p->∃z,W.cell? p=some (.int .i64 z)
theorem EG{N:NP}{w:World}{C D:Addr->Prop}{Bu:Nat}{L:Bq}{x:Ax}(h:Kf N w C D Bu L x):(Dt w L x).length=(BH L).length:=by
 unfold Dt
 rw[List.length_zipWith,<-h.top.length];simp
theorem Kg(n:Nat)(q:1<=n)(Bs:Nat)(L:Bq)(j:L.Ok):TQ Fence.wide n Tryz.prog 92 #[.pointer (some ⟨Bs,0,none⟩)] (Ip L Bs) (BH L) none:=by
 intro l J Jx Jp W p d _ c b _ a h0
 refine (yX.2 (P8 n q l Bs L j J Jx Jp W ⟨p,d,c,b,fun k r O o m i g=>a k r O o m i g⟩ h0)).mono ?_
 rintro e W' (⟨f,h|h⟩|h)
 ·exact .inl ⟨f,.inl ⟨rfl,h⟩⟩
 ·exact .inl ⟨f,.inr h⟩
 ·exact .inr h
theorem EH(s:Nat)(w:World):Calls Tryz.prog 72 #[.pointer (some ⟨s,0,none⟩)] w fun x w'=>x=.returned (.func (.func 92) #[] #[.pointer (some ⟨w.heap.size,0,none⟩)])∧w'=w.alloc (.cells #[.pointer (some ⟨s,0,none⟩)] 85):=by
 have a:∀(fn:Fn) (first cap:Array Value) (w:World),(Instr.makeFunc fn first cap).run Tryz.prog w=.ok (.func fn first cap) w:=fun _ _ _ _=>rfl
 go_enter Tryz.func72,Tryz.ntmps72
 go_wp2
 go_ret
 exact ⟨rfl,rfl⟩
end Go.Proofs.YtjofgpfocadomaaGreatDoor
namespace Go.Proofs.YtjofgpfocadomaaGreatDoor
open Go.RowKit
attribute [local go_sem] Oper.semAt_some
def Kh(x:Ax):Bool:=decide (x.lets.length<=64)&&(decide (x.crops.length<=32)&&(decide (x.reaches.length<=64)&&(decide (x.farms.length<=600)&&(decide (x.rots.length<=64)&&(decide (x.rights.length<=256)&&decide (x.duties.length<=256))))))
def FM(l:List BA):Bool:=l.all fun d=>decide (d.turns.length<=64)
def EI(x:Ax):Bool:=(Ay x).all fun e=>decide (AB e.1<=8)
def My(w:World)(ok:Bool)(e:Ending)(w':World):Prop:=Below w.heap.size w w'∧e=if ok then .returned (.tuple #[]) else .panicked [{v:=.iface 40 (.int .i64 2),recovered:=false}]
def LJ(Bs:Nat)(a:World)(p:NP)(k:Nat)(O:NP)(W:World):Prop:=(∀b,O b->Bs < b)∧Below (Bs+1) a W∧p k
theorem LJ.stays{Bs:Nat}{j:World}{p:NP}(m:j.heap.size=Bs+1):Ca (LJ Bs j p):=by
 intro k O W n W' d i f g c a e
 have hs:=d.2.1.size
 refine ⟨fun b hb=>(e b hb).elim (d.1 b) (fun h=>by omega),d.2.1.trans ⟨f,g,c,i,fun b hb=>a b (fun l=>?_) (by omega)⟩,d.2.2⟩
 have:=d.1 b l
 omega
def P9(x:Ax)(k:Nat):Prop:=∀j (h:j < (Ay x).length),j < k->AB (Ay x)[j].1<=8
def VZ(N:NP)(s:Nat)(w:World)(x:Ax)(k b o:Nat):Prop:=∃(h:k < (Ay x).length) (cs:LV),(b=s∨N b)∧w.rangeAt b o cs∧AH N w (Ay x)[k].1 cs
theorem IW{B:Nat}{a w:World}(h:Below B a w){g:Nat}(b:B<=g)(o:Obj):Below B a (w.putObj g o):=
 h.trans ⟨rfl,rfl,rfl,by simp,fun k c=>World.putObj_heap_other (by omega)⟩
theorem CH{B:Nat}{a w:World}(h:Below B a w){g:Nat}(b:B<=g)(row:Array Value):Below B a (w.setRow g row):=
 h.trans ⟨rfl,rfl,rfl,by simp[World.setRow],fun k c=>by simp[World.setRow,yL,show g≠k by omega]⟩
section
variable{N:NP}{w:World}
theorem Mz{e:Ex}{c:LV}(h:AH N w e c):∀v∈c,v.oneCell'=true:=by
 obtain ⟨a,cap,rfl,_⟩:=h.cells
 intro v b
 simp at b
 rcases b with rfl|rfl|rfl|rfl|rfl|rfl<;>rfl
theorem Ir{t:As}{cs:LV}{d:BA}(h:GM N w t cs d):∀v∈cs,v.oneCell'=true:=by
 obtain ⟨_,_,c0,c1,c2,rfl,c,g1,b,_⟩:=h
 intro v a
 simp only[AU,yN,yy,yZ,zK] at a
 rcases a with rfl|(rfl|rfl)|rfl|h|h|h|rfl
 ·rfl
 ·rfl
 ·rfl
 ·rfl
 ·exact Mz c v h
 ·exact Mz g1 v h
 ·exact Mz b v h
 ·rfl
theorem LY{t:As}{cs:LV}{d:BA}(h:GM N w t cs d)(_:cs.length=23):cs[22]?=some (.slice t.a t.n t.c):=by
 obtain ⟨_,_,c0,c1,c2,rfl,e,g1,b,_⟩:=h
 obtain ⟨_,_,rfl,_⟩:=e.cells
 obtain ⟨_,_,rfl,_⟩:=g1.cells
 obtain ⟨_,_,rfl,_⟩:=b.cells
 rfl
theorem Pa{t:As}{cs:LV}{d:BA}(h:GM N w t cs d):t.n=d.turns.length:=by
 obtain ⟨_,_,_,_,_,_,_,_,_,h,_⟩:=h
 exact h
end
def UN(s:Nat)(F:Bool)(w:World)(a:Act)(w2:World):Prop:=w2=w∧∃u6 u7 u8 u9 C L U B a0 I k Y V A S a2 b c D E m O v d g o p n G q x X P J H h e i z u j l t f K M T y R Z N W Q r,a={tmps:=#[.pointer (some ⟨s,0,none⟩),undef,.bool F,undef,undef,undef,u6,u7,u8,u9,C,L,U,B,a0,I,k,Y,V,A,S,a2,b,c,D,E,m,O,v,d,g,o,p,n,G,q,x,X,P,J,H,h,e,i,z,u,j,l,t,f,K,M,T,y,R,Z,N,W,Q,r,undef,undef,undef,undef,undef,undef,undef,undef,undef,undef,undef,undef,undef,undef,undef,undef,undef,undef,undef,undef,undef,undef,undef,undef,undef,undef,undef,undef,undef],defers:=[]}
theorem Jo{N:NP}{w:World}{L:Bq}{cs:LV}{x:Ax}(h:BP N w L cs x)(hr:w.rangeAt L.s 0 cs)(hN:∀b,N b->b < w.heap.size)(hs:L.s < w.heap.size)(hd:∀e∈Ay x,AB e.1<=1000000):
  Calls Tryz.prog 44 #[.pointer (some ⟨L.s,0,none⟩)] w (My w (Kh x&&(FM x.rots&&EI x))):=by
 have HV:=yb h
 have ah:=yb hr
 have HN:=yb hN
 have HD:=yb hd
 have U:=yb (Ke (Bs:=w.heap.size) (h.same (fun b h=>h) (Ea hN ((yg _ _).alloc (yf _) (.cells #[pV L.s 0] 0)))) (A0 hr (((yg _ _).alloc (yf _) (.cells #[pV L.s 0] 0)).block _ hs)) (by
  have:(w.alloc (.cells #[pV L.s 0] 0)).heap[w.heap.size]?=some (.cells #[pV L.s 0] 0 (0,0)):=World.alloc_heap_new _ _
  simp only[World.cell?,this];simp))
 have T:w.cell? (aV L.s 19)=some L.lets.v:=(((yg w.heap.size w).alloc (yf _) (.cells #[pV L.s 0] 0)).cell (p:=(aV L.s 19)) hs).symm.trans U.o.lets
 have J:w.cell? (aV L.s 20)=some L.crops.v:=(((yg w.heap.size w).alloc (yf _) (.cells #[pV L.s 0] 0)).cell (p:=(aV L.s 20)) hs).symm.trans U.o.crops
 have M:w.cell? (aV L.s 21)=some L.reaches.v:=(((yg w.heap.size w).alloc (yf _) (.cells #[pV L.s 0] 0)).cell (p:=(aV L.s 21)) hs).symm.trans U.o.reaches
 have S:w.cell? (aV L.s 22)=some L.farms.v:=(((yg w.heap.size w).alloc (yf _) (.cells #[pV L.s 0] 0)).cell (p:=(aV L.s 22)) hs).symm.trans U.o.farms
 have ai:w.cell? (aV L.s 23)=some L.rots.v:=(((yg w.heap.size w).alloc (yf _) (.cells #[pV L.s 0] 0)).cell (p:=(aV L.s 23)) hs).symm.trans U.o.rots
 have V:w.cell? (aV L.s 24)=some L.rights.v:=(((yg w.heap.size w).alloc (yf _) (.cells #[pV L.s 0] 0)).cell (p:=(aV L.s 24)) hs).symm.trans U.o.rights
 have Z:w.cell? (aV L.s 25)=some L.duties.v:=(((yg w.heap.size w).alloc (yf _) (.cells #[pV L.s 0] 0)).cell (p:=(aV L.s 25)) hs).symm.trans U.o.duties
 unfold As.v at T J M S ai V Z
 have n1:=h.lets.1;have n2:=h.crops.1;have n3:=h.reaches.1;have n4:=h.farms.1;have n5:=h.rots.1;have n6:=h.rights.1;have n7:=h.duties.1
 have hF:Kh x=(decide (L.lets.n<=64)&&(decide (L.crops.n<=32)&&(decide (L.reaches.n<=64)&&(decide (L.farms.n<=600)&&(decide (L.rots.n<=64)&&(decide (L.rights.n<=256)&&decide (L.duties.n<=256))))))):=by unfold Kh;rw[n1,n2,n3,n4,n5,n6,n7]
 have HF:=yb hF
 have N5:=yb n5
 clear h hr hN hd U n1 n2 n3 n4 n5 n6 n7 hF
 refine Bb (n:=10) Tryz.func44 rfl ?_
 simp only[Tryz.ntmps44,yM,yv,yE,Nat.reduceAdd,Nat.reduceSub,zx,zy,zM,zG,yP,yK]
 generalize b0:Kh x=F at HF ⊢
 clear b0
 refine A9 (A4 (Code.wp_mono (Q:=Exit.then (UN L.s F w) (fun _ _ _=>False)) ?_ ?_))
 rotate_left
 ·go_wp2
  all_goals
   first
   |(obtain rfl:F=false:=by rw[HF.o];simp only[Bool.and_eq_false_iff,decide_eq_false_iff_not];omega
     exact ⟨rfl,_,_,_,_,_,_,_,_,_,_,_,_,_,_,_,_,_,_,_,_,_,_,_,_,_,_,_,_,_,_,_,_,_,_,_,_,_,_,_,_,_,_,_,_,_,_,_,_,_,_,_,_,_,_,rfl⟩)
   |(obtain rfl:F=decide ((L.duties.n:Int)<=256):=by rw[HF.o,xS];simp only[yF,z7];omega
     exact ⟨rfl,_,_,_,_,_,_,_,_,_,_,_,_,_,_,_,_,_,_,_,_,_,_,_,_,_,_,_,_,_,_,_,_,_,_,_,_,_,_,_,_,_,_,_,_,_,_,_,_,_,_,_,_,_,_,rfl⟩)
 rintro (_|id|l|_|ch|_) a' w' h
 rotate_left
 ·exact h.elim
 ·exact h.elim
 ·exact h.elim
 ·exact h.elim
 ·exact h.elim
 obtain ⟨rfl,u6,u7,u8,u9,bk,bn,b7,ck,bv,cf,co,d0,bt,az,cj,d1,b9,av,ce,cu,bh,bo,bj,cl,bb,cq,cr,bz,bm,bi,ct,b8,bp,cw,cv,cn,ba,bd,c9,ay,be,cp,ax,cm,cx,b5,bq,cc,ci,bx,cz,bu,cg,c8,rfl⟩:=h
 clear T J M S V Z
 refine A9 (A4 ?_)
 go_wp2
 go_loopw [2,65] (fun fv iv wr=>∃i:Nat,i<=L.rots.n∧iv=iV i∧fv=.bool (F&&FM (x.rots.take i))∧Hid (Below w'.heap.size w' wr)) (fun _ iv _=>L.rots.n - (intOf iv).toNat)
 case atStart=>exact ⟨0,yH _,rfl,by simp[FM],yb (yg _ _)⟩
 case round=>
  obtain ⟨i,hi,rfl,rfl,u⟩:=hrel
  by_cases b4:i < L.rots.n
  ·have an:i < x.rots.length:=by rw[<-N5.o];exact b4
   obtain ⟨b,o,f,he,bg,r,I,B⟩:=HV.o.rots.2.2 i an
   have I:=A0 I (u.o.block b (HN.o b bg))
   have a0:=Ir B
   have a2:=LY B r
   have P:=Pa B
   have ht:FM (x.rots.take (i+1))=(FM (x.rots.take i)&&decide ((A2 L i).n<=64)):=by
    rw[yG an]
    unfold FM
    rw[qg,P]
    simp
   have HT:=yb ht
   have aw:(i:Int) < (L.rots.n:Int):=by omega
   have d3:L.rots.n<=140737488355328:=by have:=HV.o.rots.2.1;have:=N5.o;omega
   have ak:=yb I
   have R:=yb (z6 a0)
   have a6:Hid ((Tryz.prog.info? 109).map (·.size)=some f.length):=yb (by rw[r];kernel_rfl)
   have X:Hid ((Tryz.prog.info? 109).map (·.size)=some f.toArray.size):=yb (by rw[yM];exact a6.o)
   have Y:=yb r
   rw[he] at*
   have d6:((wr.alloc (.cells #[.string ⟨#[]⟩,.string ⟨#[]⟩,iV 0,iV 0,iV 0,iV 0,iV 0,.string ⟨#[]⟩,iV 0,.slice none 0 0,iV 0,iV 0,iV 0,.string ⟨#[]⟩,iV 0,.slice none 0 0,iV 0,iV 0,iV 0,.string ⟨#[]⟩,iV 0,.slice none 0 0,.slice none 0 0] 109)).setRow wr.heap.size f.toArray).cell? (aV wr.heap.size 22)=some (.slice (A2 L i).a (A2 L i).n (A2 L i).c):=by
    have cd:(wr.alloc (.cells #[.string ⟨#[]⟩,.string ⟨#[]⟩,iV 0,iV 0,iV 0,iV 0,iV 0,.string ⟨#[]⟩,iV 0,.slice none 0 0,iV 0,iV 0,iV 0,.string ⟨#[]⟩,iV 0,.slice none 0 0,iV 0,iV 0,iV 0,.string ⟨#[]⟩,iV 0,.slice none 0 0,.slice none 0 0] 109)).heap[wr.heap.size]?=some (.cells #[.string ⟨#[]⟩,.string ⟨#[]⟩,iV 0,iV 0,iV 0,iV 0,iV 0,.string ⟨#[]⟩,iV 0,.slice none 0 0,iV 0,iV 0,iV 0,.string ⟨#[]⟩,iV 0,.slice none 0 0,iV 0,iV 0,iV 0,.string ⟨#[]⟩,iV 0,.slice none 0 0,.slice none 0 0] 109 (0,0)):=World.alloc_heap_new _ _
    simp only[World.cell?,World.setRow,yL,cd]
    simp[a2]
   clear I P ht r he a0 B
   generalize FM (x.rots.take i)=G at HT ⊢
   cases al:(F&&G) with
   |false=>
    go_wp2_with (first|(refine yj rfl 109 _ rfl b (o+i*23) rfl f _ ak.o qw rfl a6.o ?_)|(refine za rfl 109 _ _ rfl wr.heap.size f.toArray rfl rfl 109 _ (World.alloc_heap_new _ _) X.o (by simp[Y.o]) R.o ?_))
    refine ⟨⟨i+1,by omega,by push_cast;rfl,by rw[HT.o];revert al;cases F<;>cases G<;>simp<;>omega,yb (CH (u.o.alloc u.o.size _) u.o.size _)⟩,by simp[intOf];omega⟩
   |true=>
    go_wp2_with (first|(refine yj rfl 109 _ rfl b (o+i*23) rfl f _ ak.o qw rfl a6.o ?_)|(refine za rfl 109 _ _ rfl wr.heap.size f.toArray rfl rfl 109 _ (World.alloc_heap_new _ _) X.o (by simp[Y.o]) R.o ?_))
    refine ⟨⟨i+1,by omega,by push_cast;rfl,by rw[HT.o];revert al;cases F<;>cases G<;>simp<;>omega,yb (CH (u.o.alloc u.o.size _) u.o.size _)⟩,by simp[intOf];omega⟩
  ·obtain rfl:i=L.rots.n:=by omega
   have aw:decide ((L.rots.n:Int) < (L.rots.n:Int))=false:=by simp
   have ad:x.rots.take L.rots.n=x.rots:=by rw[N5.o];exact yQ
   rw[ad]
   clear ad
   go_wp2
   cases ab:(F&&FM x.rots) with
   |false=>
    have g:(F&&(FM x.rots&&EI x))=false:=by rw[<-Bool.and_assoc,ab];rfl
    rw[g]
    clear g
    refine A9 (A4 ?_)
    go_wp2_with (first|(go_at_call 69;refine (Cj _ _).mono ?_;rintro e w2 ⟨rfl,rfl⟩))
    exact ⟨u.o,rfl⟩
   |true=>
    have g:(F&&(FM x.rots&&EI x))=EI x:=by rw[<-Bool.and_assoc,ab];rfl
    rw[g]
    clear g
    refine A9 (A4 ?_)
    go_wp2_with (first|(go_at_call 69;refine (Cp _ _).mono ?_;rintro e w2 ⟨rfl,rfl⟩))
    refine A9 (A4 ?_)
    go_wp2_with (first|(go_at_call 72;refine (EH _ _).mono ?_;rintro e w2 ⟨rfl,rfl⟩))
    refine D4 ?_
    have HE:=yb (Ic HV.o ah.o)
    have C:Below w'.heap.size w' (w2.alloc (.cells #[pV L.s 0] 85)):=u.o.alloc u.o.size _
    have cy:=yb C
    have K:(w2.alloc (.cells #[pV L.s 0] 85)).cell? (aV w2.heap.size 0)=some (pV L.s 0):=by
     have:(w2.alloc (.cells #[pV L.s 0] 85)).heap[w2.heap.size]?=some (.cells #[pV L.s 0] 85 (0,0)):=World.alloc_heap_new _ _
     simp only[World.cell?,this];simp
    have au:(w2.alloc (.cells #[pV L.s 0] 85)).heap.size=w2.heap.size+1:=by simp
    have am:=yb K
    have y:=yb au
    clear K au C
    have ac:∀W,Below (w2.heap.size+1) (w2.alloc (.cells #[pV L.s 0] 85)) W->Below w'.heap.size w' W:=fun W hW=>cy.o.trans (hW.mono (Nat.le_succ_of_le u.o.size))
    have q:=yb ac
    clear ac
    have aa:Hid (w'.heap.size<=w2.heap.size):=yb u.o.size
    clear u
    generalize d7:w2.alloc (.cells #[pV L.s 0] 85)=W1 at*
    refine CA (n:=10) Tryz.func44 rfl (fun _ _=>rfl) (Kg 9 (by omega) w2.heap.size L HV.o.ok) (fun a ha=>by
      obtain ⟨i,hi,rfl⟩:=zg.1 ha
      obtain ⟨b,o,c,h1,_⟩:=HE.o.get i hi (by rw[<-HE.o.length];exact hi)
      rw[h1];rfl)
     (LJ w2.heap.size W1 (P9 x)) (fun _ _ _=>False) (fun ch=>LJ w2.heap.size W1 (fun _=>ch=[{v:=.iface 40 (iV 2),recovered:=false}]∧EI x=false) 0)
     (fun k a=>(LJ w2.heap.size W1 fun k=>P9 x k∧∃b o lt,VZ N L.s w' x k b o∧a={tmps:=#[pV L.s 0,undef,.bool true,undef,u4,pV b o,u6,u7,u8,u9,bk,bn,b7,ck,bv,cf,co,d0,bt,az,cj,d1,b9,av,ce,cu,bh,bo,bj,cl,bb,cq,cr,bz,bm,bi,ct,b8,bp,cw,cv,cn,ba,bd,c9,ay,be,cp,ax,cm,cx,b5,bq,cc,ci,bx,cz,bu,cg,c8,pV L.s 0,pV L.s 0,pV L.s 23,.slice L.rots.a L.rots.n L.rots.c,iV L.rots.n,iV L.rots.n,.bool false,u67,u68,u69,u70,u71,u72,u73,u74,u75,u76,.bool true,.tuple #[],pV L.s 0,.func (.func 92) #[] #[pV w2.heap.size 0],pV b o,iV lt,undef,undef,undef,undef,undef,undef],defers:=[]}) k) ?_ (fun _ _ _ _ _ _ h=>h.elim) (fun _ _ O W O' W' h=>LJ.stays y.o 0 O W O' W' h) ?_ ?_ (fun _ _ _ h=>h.elim) (fun _ h=>by cases h) ?_ ?_ ?_ ?_ (fun _ _ _ _ _ _ h=>h.elim) ?_
    ·exact LJ.stays y.o
    ·exact fun a=>LJ.stays y.o
    ·rintro k O W ⟨hO,hb,hp⟩
     exact Ke (HV.o.same (fun b h=>h) (Ea HN.o (q.o W hb))) (A0 ah.o ((q.o W hb).block _ hs)) ((hb.cell (p:=(aV w2.heap.size 0)) (xN _)).trans am.o)
    ·exact ⟨fun _ h=>h.elim,yg _ _,fun j _ A=>absurd A (by omega)⟩
    ·intro k hk O W l A hO hl _
     obtain ⟨b,o,f,h1,h2,h3,h4⟩:=HE.o.get k hk (by rw[<-HE.o.length];exact hk)
     have H:k < (Ay x).length:=by rw[<-HE.o.length];exact hk
     rw[h1]
     generalize (Ay x)[k].2=lt
     have E:=yb A
     have HP:Hid (VZ N L.s w' x k b o):=yb ⟨H,f,h2,h3,h4⟩
     clear A hO hl h1 h2 h3 h4
     gi_wp2
     first
     |exact ⟨AO.refl _ _,E.o.1,E.o.2.1,E.o.2.2,b,o,lt,HP.o,rfl⟩
     |(rename_i hK;exact hK _ _ ⟨AO.refl _ _,E.o.1,E.o.2.1,E.o.2.2,b,o,lt,HP.o,rfl⟩)
     |(rename_i hK _;exact hK _ _ ⟨AO.refl _ _,E.o.1,E.o.2.1,E.o.2.2,b,o,lt,HP.o,rfl⟩)
     |fail
    ·rintro k hk O W l a1 hl aq ao ⟨hO,hb,hd,b,o,lt,⟨H,f,h1,h2,h3⟩,rfl⟩
     obtain ⟨ea,d2,rfl,e1,e2,e3⟩:=h3.cells
     have ar:b < w'.heap.size:=by
      rcases h1 with rfl|h1
      ·exact hs
      ·exact HN.o b h1
     obtain ⟨c0,c1,c2,c3,c4,c5⟩:=Bn (A0 h2 ((q.o W hb).block b ar))
     have hw:AH N W (Ay x)[k].1 _:=h3.same (fun b h=>h) (Ea HN.o (q.o W hb))
     have t:=yb (QX (Ay x)[k].1 hw (fun b C=>yu (HN.o b C) (q.o W hb).size) (HD.o _ (yJ H)))
     have HO:=yb hO
     have af:=yb ao
     have aj:=y.o
     have ap:Hid (w2.heap.size+1<=W.heap.size):=yb (by rw[<-aj];exact hb.size)
     clear aj
     have ae:=yb hb
     have bw:=yb hd
     have HK:=yb H
     have hX:Hid (∀d,d=AB (Ay x)[k].1->(d<=8->P9 x (k+1))∧(8 < d->EI x=false)):=yb fun d d4=>by
      refine ⟨fun h j A d5=>?_,fun h=>?_⟩
      ·rcases zQ j k with h9|h9
       ·exact bw.o j A h9
       ·obtain rfl:j=k:=by omega
        omega
      ·unfold EI
       rw[xj]
       exact ⟨_,yJ HK.o,by simp;omega⟩
     clear ao hw hO hb hd hl aq h2 h3 e1 e2 e3 h1 ar
     by_cases h8:AB (Ay x)[k].1<=8
     ·have HT:=yb ((hX.o _ rfl).1 h8)
      have z:decide ((AB (Ay x)[k].1:Int)<=8)=true:=by simp;omega
      clear h8 hX
      generalize AB (Ay x)[k].1=dd at t z
      gi_wp2_with fail
      refine ⟨trivial,zj (CallsIn.inRound l (yX.2 t.o)) ?_⟩
      rintro e w3 ⟨rfl,m⟩
      gi_wp2_with fail
      refine ⟨trivial,zj (CallsIn.inRound l (yX.2 (Cp _ _))) ?_⟩
      rintro e w4 ⟨rfl,rfl⟩
      try gi_wp2_with fail
      exact ⟨⟨m.size,fun b hb=>m.block b (af.o b hb)⟩,HO.o,ae.o.trans (m.mono ap.o),HT.o⟩
     ·have HT:=yb ((hX.o _ rfl).2 (by omega))
      have z:decide ((AB (Ay x)[k].1:Int)<=8)=false:=by simp;omega
      clear h8 hX
      generalize AB (Ay x)[k].1=dd at t z
      gi_wp2_with fail
      refine ⟨trivial,zj (CallsIn.inRound l (yX.2 t.o)) ?_⟩
      rintro e w3 ⟨rfl,m⟩
      gi_wp2_with fail
      refine ⟨trivial,zj (CallsIn.inRound l (yX.2 (Cj _ _))) ?_⟩
      rintro e w4 ⟨rfl,rfl⟩
      try gi_wp2_with fail
      exact ⟨rfl,⟨m.size,fun b hb=>m.block b (af.o b hb)⟩,HO.o,ae.o.trans (m.mono ap.o),rfl,HT.o⟩
    ·rintro - D O W hD - A a8
     have a7:EI x=true:=by
      unfold EI
      rw[yU]
      intro e he
      obtain ⟨j,ag,rfl⟩:=zg.1 he
      simp only[z7]
      exact A.2.2 j ag (by rw[HE.o.length];exact ag)
     rw[a7]
     exact ⟨by simp,.inl ⟨_,_,rfl,run_takeDeferred a8,⟨_,zn rfl _ _ _,IW (q.o W A.2.1) (by have:=y.o;have:=aa.o;omega) _,rfl⟩⟩⟩
    ·rintro D ch O W hD - ⟨-,hb,rfl,hd⟩ a8
     rw[hd]
     exact ⟨by simp,.inl ⟨_,_,rfl,run_takeDeferred a8,⟨IW (q.o W hb) (by have:=y.o;have:=aa.o;omega) _,rfl⟩⟩⟩
end Go.Proofs.YtjofgpfocadomaaGreatDoor
namespace Go.Proofs.YtjofgpfocadomaaGreatDoor
open Go.RowKit
theorem FQ{W:World}{b o m i:Nat}{s:ByteArray}{z most:Int}{a:LB}(h0:W.cell? ⟨b,o,none⟩=some (.string s))(h1:W.cell? ⟨b,o+1,none⟩=some (.int .i64 z))(j:W.frozen? ⟨b,o+1,none⟩=false)(f:BR W m a)(hs:s.size<=maxLen)(d:CP a s=some i)(hi:(i:Int) < most):
  Calls Tryz.prog 68 #[.pointer (some ⟨b,o,none⟩),.map (some m),.int .i64 most] W fun e w'=>e=.returned (.tuple #[])∧w'=W.setCell ⟨b,o+1,none⟩ (.int .i64 (i:Int)):=by
 have c:=f.look s hs
 simp only[Hz,d] at c
 have h:=yb d
 clear d f
 go_enter Tryz.func68,Tryz.ntmps68
 go_wp2_with (first|(go_at_call 69;refine (Cp _ _).mono ?_;rintro e g ⟨rfl,rfl⟩))
 go_end0
 exact ⟨rfl,rfl⟩
theorem He{W:World}{b o m:Nat}{s:ByteArray}{most:Int}{c:LB}(h0:W.cell? ⟨b,o,none⟩=some (.string s))(g:BR W m c)(hs:s.size<=maxLen)(f:∀i,CP c s=some i->¬ (i:Int) < most):
  Calls Tryz.prog 68 #[.pointer (some ⟨b,o,none⟩),.map (some m),.int .i64 most] W fun e w'=>e=.panicked (Er 170)∧w'=W:=by
 have d:=g.look s hs
 cases a:CP c s with
 |none=>
  simp only[Hz,a] at d
  have k:=yb f;have j:=yb a
  clear f g a
  go_enter Tryz.func68,Tryz.ntmps68
  go_wp2_with (first|(go_at_call 69;refine (Cj _ _).mono ?_;rintro e h ⟨rfl,rfl⟩))
  exact ⟨rfl,rfl,rfl⟩
 |some i=>
  have hi:=f i a
  simp only[Hz,a] at d
  have j:=yb a
  clear f g a
  go_enter Tryz.func68,Tryz.ntmps68
  go_wp2_with (first|(go_at_call 69;refine (Cj _ _).mono ?_;rintro e h ⟨rfl,rfl⟩))
  exact ⟨rfl,rfl,rfl⟩
def Ty(w:World)(b t:Nat):Prop:=∃c,w.heap[b]?=some (.cells c t (0,0))
theorem Ty.inj{w:World}{b t d:Nat}(h:Ty w b t)(f:Ty w b d):t=d:=by
 obtain ⟨c,e⟩:=h
 obtain ⟨g,a⟩:=f
 rw[e] at a
 cases a;rfl
theorem Ty.lt{w:World}{b t:Nat}(h:Ty w b t):b < w.heap.size:=by
 obtain ⟨c,e⟩:=h
 exact (yd.1 e).1
def Fp(t o:Nat):Nat:=
 if t=35 then (if o=0 then 0 else if o < 19 then 1 else 0)
 else if t=50 then (if o % 7=0 then 0 else 1)
 else if t=92 then (if o % 7=0 then 0 else 1)
 else if t=66 then (if o % 51 < 2 then 0 else if o % 51=2 then 2 else 1)
 else if t=94 then (if o % 12=2 then 2 else if o % 12=11 then 2 else if o % 12 < 4 then 0 else if o % 12=10 then 0 else 1)
 else if t=109 then (if o % 23=2 then 2 else if o % 23 < 4 then 0 else if o % 23=22 then 0 else 1)
 else if t=158 then (if o % 8=0 then 0 else if o % 8=1 then 2 else 1)
 else if t=131 then (if o % 37=3 then 2 else if o % 37=5 then 2 else if o % 37 < 7 then 0 else 1)
 else if t=135 then (if o % 11=2 then 2 else if o % 11=4 then 2 else if o % 11 < 5 then 0 else 1)
 else 1
def FR(t o:Nat):Nat:=
 if t=35 then (o+5) % 6
 else if t=50 then (o % 7+5) % 6
 else if t=92 then (o % 7+5) % 6
 else if t=66 then (o % 51+3) % 6
 else if t=94 then (o % 12+2) % 6
 else if t=109 then (o % 23+2) % 6
 else if t=158 then (o % 8+4) % 6
 else if t=131 then (o % 37+5) % 6
 else if t=135 then (o % 11+1) % 6
 else o % 6
def Gh(w:World)(b o:Nat):Prop:=∃t,Ty w b t∧∀j,j < 6->Fp t (o+j)=1∧FR t (o+j)=j
theorem Gh.uniq{w:World}{b o a j j':Nat}(h:Gh w b o)(k:Gh w b a)(i:j < 6)(c:j' < 6)(f:o+j=a+j'):j=j'∧o=a:=by
 obtain ⟨t,h1,h2⟩:=h
 obtain ⟨m,e,d⟩:=k
 obtain rfl:=h1.inj e
 have l:=(h2 j i).2
 have g:=(d j' c).2
 rw[f,g] at l
 omega
def Pe(w:World)(b o:Nat):Prop:=∃t,Ty w b t∧Fp t o=0∧Fp t (o+1)=2
def Nz(w:World)(b o:Nat):Prop:=∃t,Ty w b t∧Fp t o=0
def E9{α:Type}(N:NP)(w:World)(t sz:Nat)(P:Nat->Nat->Nat->α->Prop)(h:As)(l:List α):Prop:=
 h.n=l.length∧l.length<=140737488355328∧∀i (hi:i < l.length),∃g,h.a=some ⟨g,0,none⟩∧N g∧Ty w g t∧P i g (i*sz) l[i]
theorem E9.ok{α:Type}{N:NP}{w:World}{t sz:Nat}{P:Nat->Nat->Nat->α->Prop}{h:As}{l:List α}(hr:E9 N w t sz P h l):h.ok:=by
 obtain ⟨h1,h2,h3⟩:=hr
 refine ⟨by omega,fun a=>?_⟩
 obtain ⟨g,g1,_⟩:=h3 0 (by omega)
 exact ⟨g,0,g1⟩
theorem E9.map{α:Type}{N:NP}{w w':World}{t sz:Nat}{P e:Nat->Nat->Nat->α->Prop}{h:As}{l:List α}{f:Nat->α->α}(hr:E9 N w t sz P h l)(j:∀b,N b->Ty w b t->Ty w' b t)(m:∀i g d,N g->Ty w g t->P i g (i*sz) d->e i g (i*sz) (f i d)):E9 N w' t sz e h (l.mapIdx f):=by
 obtain ⟨h1,h2,h3⟩:=hr
 refine ⟨by rw[List.length_mapIdx];exact h1,by rw[List.length_mapIdx];exact h2,fun i hi=>?_⟩
 rw[List.length_mapIdx] at hi
 obtain ⟨g,g1,a,c,k⟩:=h3 i hi
 refine ⟨g,g1,a,j g a c,?_⟩
 rw[List.getElem_mapIdx]
 exact m i g _ a c k
section
variable(N:NP)(E:Int->Ex->Nat->Nat->Prop)(R:Int->Rf->Nat->Nat->Prop)(w:World)
def Kq(s:ByteArray)(g o:Nat):Prop:=s.size<=maxLen∧w.cell? ⟨g,o,none⟩=some (.string s)
def Vj(i g o:Nat)(d:Ga):Prop:=Kq w d.name g o∧E (1+(i:Int)) d.value g (o+1)
def UC(_ g o:Nat)(d:DD):Prop:=Kq w d.name g o∧E 0 d.need g (o+1)
def Sw(i g o:Nat)(d:AD):Prop:=Kq w d.name g o∧R (if i=0 then 0 else 6) d.frm g (o+1)∧E 0 d.delay g (o+3)∧E 0 d.cap g (o+9)∧E 0 d.bank g (o+15)∧E 0 d.siphon g (o+21)∧E 0 d.evap0 g (o+27)∧E 0 d.evap1 g (o+33)∧E 0 d.seep0 g (o+39)∧E 0 d.seep1 g (o+45)
def UD(_ g o:Nat)(d:CV):Prop:=Kq w d.name g o∧R 4 d.on g (o+1)∧w.cell? ⟨g,o+3,none⟩=some (.bool d.river)∧E 0 d.area g (o+4)∧R (if d.river then 0 else 3) d.crop g (o+10)
def UE(_ g o:Nat)(d:Cm):Prop:=R 5 d.farm g o∧E 0 d.len g (o+2)
def UO(h:Nat->As)(i g o:Nat)(d:BA):Prop:=Kq w d.name g o∧R 4 d.on g (o+1)∧w.cell? ⟨g,o+3,none⟩=some (.int .i64 d.rank)∧E 0 d.flow g (o+4)∧E 0 d.frm g (o+10)∧E 0 d.to g (o+16)∧w.cell? ⟨g,o+22,none⟩=some (h i).v∧E9 N w 158 8 (UE E R) (h i) d.turns
def Sx(_ g o:Nat)(d:B6):Prop:=w.cell? ⟨g,o,none⟩=some (.int .i64 d.kind)∧Kq w d.name g (o+1)∧R 5 d.farm g (o+2)∧R (if d.kind=1 then 0 else 4) d.reach g (o+4)∧w.cell? ⟨g,o+6,none⟩=some (.int .i64 d.rank)∧E 0 d.flow g (o+7)∧E 0 d.frm g (o+13)∧E 0 d.to g (o+19)∧E 0 d.every g (o+25)∧E 0 d.len g (o+31)
def UF(_ g o:Nat)(d:D6):Prop:=Kq w d.name g o∧R 5 d.farm g (o+1)∧R 4 d.reach g (o+3)∧E 0 d.due g (o+5)
structure C8 (L:Bq) (x:Ax):Prop where
 ty:Ty w L.s 35
 name:Kq w x.name L.s 0
 season:E 0 x.season L.s 1
 cap:E 0 x.cap L.s 7
 start:E 0 x.start L.s 13
 hlets:w.cell? ⟨L.s,19,none⟩=some L.lets.v
 hcrops:w.cell? ⟨L.s,20,none⟩=some L.crops.v
 hreaches:w.cell? ⟨L.s,21,none⟩=some L.reaches.v
 hfarms:w.cell? ⟨L.s,22,none⟩=some L.farms.v
 hrots:w.cell? ⟨L.s,23,none⟩=some L.rots.v
 hrights:w.cell? ⟨L.s,24,none⟩=some L.rights.v
 hduties:w.cell? ⟨L.s,25,none⟩=some L.duties.v
 lets:E9 N w 50 7 (Vj E w) L.lets x.lets
 crops:E9 N w 92 7 (UC E w) L.crops x.crops
 reaches:E9 N w 66 51 (Sw E R w) L.reaches x.reaches
 farms:E9 N w 94 12 (UD E R w) L.farms x.farms
 rots:E9 N w 109 23 (UO N E R w (A2 L)) L.rots x.rots
 rights:E9 N w 131 37 (Sx E R w) L.rights x.rights
 duties:E9 N w 135 11 (UF E R w) L.duties x.duties
end
section
variable(f:Int->Ex->Ex)(g:Int->Rf->Rf)
def Ga.mp(i:Nat)(d:Ga):Ga:={d with value:=f (1+(i:Int)) d.value}
def DD.mp(_:Nat)(d:DD):DD:={d with need:=f 0 d.need}
def AD.mp(i:Nat)(d:AD):AD:={d with frm:=g (if i=0 then 0 else 6) d.frm,delay:=f 0 d.delay,cap:=f 0 d.cap,bank:=f 0 d.bank,siphon:=f 0 d.siphon,evap0:=f 0 d.evap0,evap1:=f 0 d.evap1,seep0:=f 0 d.seep0,seep1:=f 0 d.seep1}
def CV.mp(_:Nat)(d:CV):CV:={d with on:=g 4 d.on,area:=f 0 d.area,crop:=g (if d.river then 0 else 3) d.crop}
def Cm.mp(_:Nat)(d:Cm):Cm:={farm:=g 5 d.farm,len:=f 0 d.len}
def BA.mp(_:Nat)(d:BA):BA:={d with on:=g 4 d.on,flow:=f 0 d.flow,frm:=f 0 d.frm,to:=f 0 d.to,turns:=d.turns.mapIdx (Cm.mp f g)}
def B6.mp(_:Nat)(d:B6):B6:={d with farm:=g 5 d.farm,reach:=g (if d.kind=1 then 0 else 4) d.reach,flow:=f 0 d.flow,frm:=f 0 d.frm,to:=f 0 d.to,every:=f 0 d.every,len:=f 0 d.len}
def D6.mp(_:Nat)(d:D6):D6:={d with farm:=g 5 d.farm,reach:=g 4 d.reach,due:=f 0 d.due}
def Ax.mp(x:Ax):Ax:=
 {x with season:=f 0 x.season,cap:=f 0 x.cap,start:=f 0 x.start,lets:=x.lets.mapIdx (Ga.mp f),crops:=x.crops.mapIdx (DD.mp f),reaches:=x.reaches.mapIdx (AD.mp f g),farms:=x.farms.mapIdx (CV.mp f g),rots:=x.rots.mapIdx (BA.mp f g),rights:=x.rights.mapIdx (B6.mp f g),duties:=x.duties.mapIdx (D6.mp f g)}
end
def Pf(t sz:Nat):Prop:=(t=50∧sz=7)∨(t=92∧sz=7)∨(t=66∧sz=51)∨(t=94∧sz=12)∨(t=109∧sz=23)∨(t=158∧sz=8)∨(t=131∧sz=37)∨(t=135∧sz=11)
theorem CW{t sz:Nat}(h:Pf t sz)(i c:Nat):Fp t (i*sz+c)=Fp t c∧FR t (i*sz+c)=FR t c:=by
 rcases h with ⟨rfl,rfl⟩|⟨rfl,rfl⟩|⟨rfl,rfl⟩|⟨rfl,rfl⟩|⟨rfl,rfl⟩|⟨rfl,rfl⟩|⟨rfl,rfl⟩|⟨rfl,rfl⟩
 ·have e:(i*7+c) % 7=c % 7:=by omega
  simp[Fp,FR,e]
 ·have e:(i*7+c) % 7=c % 7:=by omega
  simp[Fp,FR,e]
 ·have e:(i*51+c) % 51=c % 51:=by omega
  simp[Fp,FR,e]
 ·have e:(i*12+c) % 12=c % 12:=by omega
  simp[Fp,FR,e]
 ·have e:(i*23+c) % 23=c % 23:=by omega
  simp[Fp,FR,e]
 ·have e:(i*8+c) % 8=c % 8:=by omega
  simp[Fp,FR,e]
 ·have e:(i*37+c) % 37=c % 37:=by omega
  simp[Fp,FR,e]
 ·have e:(i*11+c) % 11=c % 11:=by omega
  simp[Fp,FR,e]
theorem Ba{w:World}{g t sz:Nat}(h:Ty w g t)(hr:Pf t sz)(i c:Nat)(h1:∀j,j < 6->Fp t (c+j)=1∧FR t (c+j)=j):Gh w g (i*sz+c):=
 ⟨t,h,fun j a=>by rw[zN,(CW hr i (c+j)).1,(CW hr i (c+j)).2];exact h1 j a⟩
theorem Du{w:World}{g t sz:Nat}(h:Ty w g t)(hr:Pf t sz)(i c:Nat)(h1:Fp t c=0):Nz w g (i*sz+c):=⟨t,h,by rw[(CW hr i c).1];exact h1⟩
theorem Eg{w:World}{g t sz:Nat}(h:Ty w g t)(hr:Pf t sz)(i:Nat)(h1:Fp t 0=0):Nz w g (i*sz):=Du h hr i 0 h1
theorem BK{w:World}{g t sz:Nat}(h:Ty w g t)(hr:Pf t sz)(i c:Nat)(h1:Fp t c=0)(h2:Fp t (c+1)=2):Pe w g (i*sz+c):=
 ⟨t,h,by rw[(CW hr i c).1];exact h1,by rw[zN,(CW hr i (c+1)).1];exact h2⟩
theorem M3{w:World}{g t sz:Nat}(h:Ty w g t)(hr:Pf t sz)(i:Nat)(h1:Fp t 0=0)(h2:Fp t 1=2):Pe w g (i*sz):=BK h hr i 0 h1 h2
theorem Sy:Pf 50 7:=.inl ⟨rfl,rfl⟩
theorem Pg:Pf 92 7:=.inr (.inl ⟨rfl,rfl⟩)
theorem BS:Pf 66 51:=.inr (.inr (.inl ⟨rfl,rfl⟩))
theorem F1:Pf 94 12:=.inr (.inr (.inr (.inl ⟨rfl,rfl⟩)))
theorem Fq:Pf 109 23:=.inr (.inr (.inr (.inr (.inl ⟨rfl,rfl⟩))))
theorem Kr:Pf 158 8:=.inr (.inr (.inr (.inr (.inr (.inl ⟨rfl,rfl⟩)))))
theorem BT:Pf 131 37:=.inr (.inr (.inr (.inr (.inr (.inr (.inl ⟨rfl,rfl⟩))))))
theorem Gi:Pf 135 11:=.inr (.inr (.inr (.inr (.inr (.inr (.inr ⟨rfl,rfl⟩))))))
section
variable{N:NP}{E E':Int->Ex->Nat->Nat->Prop}{R R':Int->Rf->Nat->Nat->Prop}{w w':World}{f:Int->Ex->Ex}{g:Int->Rf->Rf}
theorem Kq.same{s:ByteArray}{b o:Nat}(h:Kq w s b o)(a:w'.cell? ⟨b,o,none⟩=w.cell? ⟨b,o,none⟩):Kq w' s b o:=⟨h.1,a.trans h.2⟩
theorem C8.map{L:Bq}{x:Ax}(h:C8 N E R w L x)(k:∀b t,(N b∨b=L.s)->Ty w b t->Ty w' b t)(c:∀b o,(N b∨b=L.s)->Nz w b o->w'.cell? ⟨b,o,none⟩=w.cell? ⟨b,o,none⟩)
 (a:∀lt e b o,(N b∨b=L.s)->Gh w b o->E lt e b o->E' lt (f lt e) b o)(hr:∀to r b o,(N b∨b=L.s)->Pe w b o->R to r b o->R' to (g to r) b o):C8 N E' R' w' L (x.mp f g):=by
 have l:∀o,Fp 35 o=0->w'.cell? (aV L.s o)=w.cell? (aV L.s o):=fun o A=>c _ _ (.inr rfl) ⟨_,h.ty,A⟩
 have y:∀lt e o,(∀j,j < 6->Fp 35 (o+j)=1∧FR 35 (o+j)=j)->E lt e L.s o->E' lt (f lt e) L.s o:=fun lt e o A=>a lt e _ _ (.inr rfl) ⟨_,h.ty,A⟩
 refine ⟨k _ _ (.inr rfl) h.ty,h.name.same (l 0 rfl),y _ _ _ (by decide) h.season,y _ _ _ (by decide) h.cap,y _ _ _ (by decide) h.start,(l _ rfl).trans h.hlets,(l _ rfl).trans h.hcrops,(l _ rfl).trans h.hreaches,(l _ rfl).trans h.hfarms,(l _ rfl).trans h.hrots,(l _ rfl).trans h.hrights,(l _ rfl).trans h.hduties,?_,?_,?_,?_,?_,?_,?_⟩
 ·refine h.lets.map (fun b hb=>k b _ (.inl hb)) fun i b d hb ty ⟨h1,h2⟩=>?_
  exact ⟨h1.same (c _ _ (.inl hb) (Eg ty Sy i rfl)),a _ _ _ _ (.inl hb) (Ba ty Sy i 1 (by decide)) h2⟩
 ·refine h.crops.map (fun b hb=>k b _ (.inl hb)) fun i b d hb ty ⟨h1,h2⟩=>?_
  exact ⟨h1.same (c _ _ (.inl hb) (Eg ty Pg i rfl)),a _ _ _ _ (.inl hb) (Ba ty Pg i 1 (by decide)) h2⟩
 ·refine h.reaches.map (fun b hb=>k b _ (.inl hb)) fun i b d hb ty ⟨h1,h2,q,p,n,u,v,C,D,B⟩=>?_
  exact ⟨h1.same (c _ _ (.inl hb) (Eg ty BS i rfl)),hr _ _ _ _ (.inl hb) (BK ty BS i 1 rfl rfl) h2,
   a _ _ _ _ (.inl hb) (Ba ty BS i 3 (by decide)) q,a _ _ _ _ (.inl hb) (Ba ty BS i 9 (by decide)) p,a _ _ _ _ (.inl hb) (Ba ty BS i 15 (by decide)) n,a _ _ _ _ (.inl hb) (Ba ty BS i 21 (by decide)) u,
   a _ _ _ _ (.inl hb) (Ba ty BS i 27 (by decide)) v,a _ _ _ _ (.inl hb) (Ba ty BS i 33 (by decide)) C,a _ _ _ _ (.inl hb) (Ba ty BS i 39 (by decide)) D,a _ _ _ _ (.inl hb) (Ba ty BS i 45 (by decide)) B⟩
 ·refine h.farms.map (fun b hb=>k b _ (.inl hb)) fun i b d hb ty ⟨h1,h2,h3,m,z⟩=>?_
  exact ⟨h1.same (c _ _ (.inl hb) (Eg ty F1 i rfl)),hr _ _ _ _ (.inl hb) (BK ty F1 i 1 rfl rfl) h2,(c _ _ (.inl hb) (Du ty F1 i 3 rfl)).trans h3,
   a _ _ _ _ (.inl hb) (Ba ty F1 i 4 (by decide)) m,hr _ _ _ _ (.inl hb) (BK ty F1 i 10 rfl rfl) z⟩
 ·refine h.rots.map (fun b hb=>k b _ (.inl hb)) fun i b d hb ty ⟨h1,h2,h3,q,p,n,m,z⟩=>?_
  refine ⟨h1.same (c _ _ (.inl hb) (Eg ty Fq i rfl)),hr _ _ _ _ (.inl hb) (BK ty Fq i 1 rfl rfl) h2,(c _ _ (.inl hb) (Du ty Fq i 3 rfl)).trans h3,
   a _ _ _ _ (.inl hb) (Ba ty Fq i 4 (by decide)) q,a _ _ _ _ (.inl hb) (Ba ty Fq i 10 (by decide)) p,a _ _ _ _ (.inl hb) (Ba ty Fq i 16 (by decide)) n,(c _ _ (.inl hb) (Du ty Fq i 22 rfl)).trans m,?_⟩
  refine z.map (fun b hb=>k b _ (.inl hb)) fun i b d hb ty ⟨h1,h2⟩=>?_
  exact ⟨hr _ _ _ _ (.inl hb) (M3 ty Kr i rfl rfl) h1,a _ _ _ _ (.inl hb) (Ba ty Kr i 2 (by decide)) h2⟩
 ·refine h.rights.map (fun b hb=>k b _ (.inl hb)) fun i b d hb ty ⟨h0,h1,h2,h3,m,q,p,n,u,v⟩=>?_
  exact ⟨(c _ _ (.inl hb) (Eg ty BT i rfl)).trans h0,h1.same (c _ _ (.inl hb) (Du ty BT i 1 rfl)),hr _ _ _ _ (.inl hb) (BK ty BT i 2 rfl rfl) h2,hr _ _ _ _ (.inl hb) (BK ty BT i 4 rfl rfl) h3,
   (c _ _ (.inl hb) (Du ty BT i 6 rfl)).trans m,a _ _ _ _ (.inl hb) (Ba ty BT i 7 (by decide)) q,a _ _ _ _ (.inl hb) (Ba ty BT i 13 (by decide)) p,a _ _ _ _ (.inl hb) (Ba ty BT i 19 (by decide)) n,a _ _ _ _ (.inl hb) (Ba ty BT i 25 (by decide)) u,a _ _ _ _ (.inl hb) (Ba ty BT i 31 (by decide)) v⟩
 ·refine h.duties.map (fun b hb=>k b _ (.inl hb)) fun i b d hb ty ⟨h1,h2,h3,m⟩=>?_
  exact ⟨h1.same (c _ _ (.inl hb) (Eg ty Gi i rfl)),hr _ _ _ _ (.inl hb) (BK ty Gi i 1 rfl rfl) h2,hr _ _ _ _ (.inl hb) (BK ty Gi i 3 rfl rfl) h3,a _ _ _ _ (.inl hb) (Ba ty Gi i 5 (by decide)) m⟩
end
def Va(N:NP)(E:Int->Ex->Nat->Nat->Prop)(w:World)(a:Array Value)(e:Lp):Prop:=∃b o,a=#[.pointer (some ⟨b,o,none⟩),.int .i64 e.2]∧N b∧Gh w b o∧E e.2 e.1 b o
section
variable{N:NP}{E:Int->Ex->Nat->Nat->Prop}{R:Int->Rf->Nat->Nat->Prop}{w:World}
theorem Cv{h:As}{g sz i b t:Nat}{e:Ex}{lt:Int}(c:h.a=some ⟨g,0,none⟩)(hN:N g)(ty:Ty w g t)(hr:Pf t sz)(h1:∀j,j < 6->Fp t (b+j)=1∧FR t (b+j)=j)(d:E lt e g (i*sz+b)):Va N E w #[h.ptr sz i b,.int .i64 lt] (e,lt):=
 ⟨g,i*sz+b,by unfold As.ptr;rw[AP c,yw],hN,Ba ty hr i b h1,d⟩
theorem C8.all2{L:Bq}{x:Ax}(h:C8 N E R w L x)(hs:N L.s):Az (Va N E w) (BH L) (Ay x):=by
 refine Az.append ?_ (Az.append ?_ (Az.append ?_ (Az.append ?_ (Az.append ?_ (Az.append ?_ (Az.append ?_ ?_))))))
 ·exact ⟨⟨L.s,1,rfl,hs,⟨_,h.ty,by decide⟩,h.season⟩,⟨L.s,7,rfl,hs,⟨_,h.ty,by decide⟩,h.cap⟩,⟨L.s,13,rfl,hs,⟨_,h.ty,by decide⟩,h.start⟩,trivial⟩
 ·obtain ⟨h1,h2,h3⟩:=h.lets
  refine AY _ (fun i (d:Ga)=> [(d.value,1+(i:Int))]) x.lets _ h1 fun i hi=>?_
  obtain ⟨g,g1,a,ty,m,f⟩:=h3 i hi
  exact ⟨Cv g1 a ty Sy (by decide) f,trivial⟩
 ·obtain ⟨h1,h2,h3⟩:=h.crops
  refine AY _ (fun i (d:DD)=> [(d.need,0)]) x.crops _ h1 fun i hi=>?_
  obtain ⟨g,g1,a,ty,m,f⟩:=h3 i hi
  exact ⟨Cv g1 a ty Pg (by decide) f,trivial⟩
 ·obtain ⟨h1,h2,h3⟩:=h.reaches
  refine AY _ (fun i (d:AD)=> [(d.delay,0),(d.cap,0),(d.bank,0),(d.siphon,0),(d.evap0,0),(d.evap1,0),(d.seep0,0),(d.seep1,0)]) x.reaches _ h1 fun i hi=>?_
  obtain ⟨g,g1,a,ty,m,f,b,e,c,j,l,q,r,p⟩:=h3 i hi
  exact ⟨Cv g1 a ty BS (by decide) b,Cv g1 a ty BS (by decide) e,Cv g1 a ty BS (by decide) c,Cv g1 a ty BS (by decide) j,Cv g1 a ty BS (by decide) l,Cv g1 a ty BS (by decide) q,Cv g1 a ty BS (by decide) r,Cv g1 a ty BS (by decide) p,trivial⟩
 ·obtain ⟨h1,h2,h3⟩:=h.farms
  refine AY _ (fun i (d:CV)=> [(d.area,0)]) x.farms _ h1 fun i hi=>?_
  obtain ⟨g,g1,a,ty,_,_,_,b,_⟩:=h3 i hi
  exact ⟨Cv g1 a ty F1 (by decide) b,trivial⟩
 ·obtain ⟨h1,h2,h3⟩:=h.rots
  refine AY _ (fun i (d:BA)=> [(d.flow,0),(d.frm,0),(d.to,0)]++Ec d.turns) x.rots _ h1 fun i hi=>?_
  obtain ⟨g,g1,a,ty,_,_,_,b,e,c,_,o,u,n⟩:=h3 i hi
  refine Az.append ⟨Cv g1 a ty Fq (by decide) b,Cv g1 a ty Fq (by decide) e,Cv g1 a ty Fq (by decide) c,trivial⟩ ?_
  refine AY _ (fun k (d:Cm)=> [(d.len,0)]) (x.rots[i]).turns _ o fun k t=>?_
  obtain ⟨g,g1,a,ty,_,b⟩:=n k t
  exact ⟨Cv g1 a ty Kr (by decide) b,trivial⟩
 ·obtain ⟨h1,h2,h3⟩:=h.rights
  refine AY _ (fun i (d:B6)=> [(d.flow,0),(d.frm,0),(d.to,0),(d.every,0),(d.len,0)]) x.rights _ h1 fun i hi=>?_
  obtain ⟨g,g1,a,ty,_,_,_,_,_,b,e,c,j,l⟩:=h3 i hi
  exact ⟨Cv g1 a ty BT (by decide) b,Cv g1 a ty BT (by decide) e,Cv g1 a ty BT (by decide) c,Cv g1 a ty BT (by decide) j,Cv g1 a ty BT (by decide) l,trivial⟩
 ·obtain ⟨h1,h2,h3⟩:=h.duties
  refine AY _ (fun i (d:D6)=> [(d.due,0)]) x.duties _ h1 fun i hi=>?_
  obtain ⟨g,g1,a,ty,_,_,_,b⟩:=h3 i hi
  exact ⟨Cv g1 a ty Gi (by decide) b,trivial⟩
end
def EV(N:NP)(w:World)(_:Int)(e:Ex)(b o:Nat):Prop:=∃c,w.rangeAt b o c∧AH N w e c
def RV(w:World)(_:Int)(r:Rf)(b o:Nat):Prop:=r.name.size<=maxLen∧w.cell? ⟨b,o,none⟩=some (.string r.name)∧w.cell? ⟨b,o+1,none⟩=some (.int .i64 r.n)
theorem A6{w:World}{b o:Nat}{v:Value}{l:LV}(h:w.cell? ⟨b,o,none⟩=some v)(c:w.rangeAt b (o+1) l):w.rangeAt b o (v::l):=fun j u a=>by
 cases j with
 |zero=>simp at a;subst a;exact h
 |succ j=>have:=c j u (by simpa using a);rw[show o+(j+1)=o+1+j by omega];exact this
theorem Is{w:World}{b o:Nat}{l m:LV}(h:w.rangeAt b o l)(d:w.rangeAt b (o+l.length) m):w.rangeAt b o (l++m):=fun j u a=>by
 rcases zQ j l.length with c|c
 ·rw[zo c] at a;exact h j u a
 ·rw[yV c] at a
  have:=d (j - l.length) u a
  rw[show o+l.length+(j - l.length)=o+j by omega] at this;exact this
theorem Re(w:World)(b o:Nat):w.rangeAt b o []:=fun j u a=>by simp at a
theorem BU{w:World}{b o:Nat}{v:Value}(h:w.cell? ⟨b,o,none⟩=some v):w.rangeAt b o [v]:=A6 h (Re _ _ _)
theorem M4{w:World}{to:Int}{r:Rf}{b o:Nat}(h:RV w to r b o):w.rangeAt b o (AU r):=A6 h.2.1 (BU h.2.2)
theorem Be{w:World}{b o:Nat}{c l:LV}(d:c.length=6)(h:w.rangeAt b o c)(a:w.rangeAt b (o+6) l):w.rangeAt b o (c++l):=Is h (by rw[d];exact a)
theorem Ew{w:World}{to:Int}{r:Rf}{b o:Nat}{l:LV}(h:RV w to r b o)(a:w.rangeAt b (o+2) l):w.rangeAt b o (AU r++l):=Is (M4 h) a
theorem E9.isRow{α:Type}{N:NP}{w:World}{t sz:Nat}{P:Nat->Nat->Nat->α->Prop}{h:As}{l:List α}{Q:LV->α->Prop}(hr:E9 N w t sz P h l)(c:∀i g d,P i g (i*sz) d->∃cs,cs.length=sz∧w.rangeAt g (i*sz) cs∧Q cs d):BF N w sz Q h l:=by
 obtain ⟨h1,h2,h3⟩:=hr
 refine ⟨h1,h2,fun i hi=>?_⟩
 obtain ⟨g,g1,f,ty,a⟩:=h3 i hi
 obtain ⟨cs,j,e,b⟩:=c i g _ a
 exact ⟨g,0,cs,g1,f,j,by rw[yw];exact e,b⟩
theorem C8.srcV{N:NP}{w:World}{L:Bq}{x:Ax}(h:C8 N (EV N w) (RV w) w L x):∃cs,cs.length=26∧w.rangeAt L.s 0 cs∧BP N w L cs x:=by
 obtain ⟨c0,e,a⟩:=h.season
 obtain ⟨c1,r1,f⟩:=h.cap
 obtain ⟨c2,r2,l⟩:=h.start
 have b:=a.len;have k:=f.len;have j:=l.len
 refine ⟨.string x.name::(c0++(c1++(c2++[L.lets.v,L.crops.v,L.reaches.v,L.farms.v,L.rots.v,L.rights.v,L.duties.v]))),by simp[b,k,j],?_,?_⟩
 ·exact A6 h.name.2 (Be b e (Be k r1 (Be j r2 (A6 h.hlets (A6 h.hcrops (A6 h.hreaches (A6 h.hfarms (A6 h.hrots (A6 h.hrights (BU h.hduties))))))))))
 refine ⟨h.name.1,⟨c0,c1,c2,rfl,a,f,l⟩,?_,?_,?_,?_,?_,?_,?_⟩
 ·refine h.lets.isRow fun i g d ⟨h1,c0,e,a⟩=>?_
  have b:=a.len
  exact ⟨.string d.name::c0,by simp[b],A6 h1.2 e,h1.1,c0,rfl,a⟩
 ·refine h.crops.isRow fun i g d ⟨h1,c0,e,a⟩=>?_
  have b:=a.len
  exact ⟨.string d.name::c0,by simp[b],A6 h1.2 e,h1.1,c0,rfl,a⟩
 ·refine h.reaches.isRow fun i g d ⟨h1,c,⟨c0,e,a⟩,⟨c1,r1,f⟩,⟨c2,r2,l⟩,⟨c3,r,v3⟩,⟨c4,q,v4⟩,⟨c5,D,v5⟩,⟨c6,C,A⟩,⟨c7,E,u⟩⟩=>?_
  have b:=a.len;have k:=f.len;have j:=l.len;have n:=v3.len;have p:=v4.len;have z:=v5.len;have t:=A.len;have H:=u.len
  exact ⟨.string d.name::(AU d.frm++(c0++(c1++(c2++(c3++(c4++(c5++(c6++c7)))))))),by simp[At,b,k,j,n,p,z,t,H],
   A6 h1.2 (Ew c (Be b e (Be k r1 (Be j r2 (Be n r (Be p q (Be z D (Be t C E)))))))),h1.1,c.1,c0,c1,c2,c3,c4,c5,c6,c7,rfl,a,f,l,v3,v4,v5,A,u⟩
 ·refine h.farms.isRow fun i g d ⟨h1,c,o,⟨c0,e,a⟩,m⟩=>?_
  have b:=a.len
  exact ⟨.string d.name::(AU d.on++(.bool d.river::(c0++AU d.crop))),by simp[At,b],A6 h1.2 (Ew c (A6 o (Be b e (M4 m)))),h1.1,c.1,m.1,c0,rfl,a⟩
 ·obtain ⟨h1,h2,h3⟩:=h.rots
  refine ⟨h1,h2,fun i hi=>?_⟩
  obtain ⟨g,g1,F,ty,y,c,o,⟨c0,e,a⟩,⟨c1,r1,f⟩,⟨c2,r2,l⟩,G,B⟩:=h3 i hi
  have b:=a.len;have k:=f.len;have j:=l.len
  refine ⟨g,0,.string (x.rots[i]).name::(AU (x.rots[i]).on++(iV (x.rots[i]).rank::(c0++(c1++(c2++[(A2 L i).v]))))),g1,F,by simp[At,b,k,j],?_,y.1,c.1,c0,c1,c2,rfl,a,f,l,?_⟩
  ·rw[yw]
   exact A6 y.2 (Ew c (A6 o (Be b e (Be k r1 (Be j r2 (BU G))))))
  ·refine B.isRow fun i g d ⟨c,c0,e,a⟩=>?_
   have b:=a.len
   exact ⟨AU d.farm++c0,by simp[At,b],Ew c e,c.1,c0,rfl,a⟩
 ·refine h.rights.isRow fun i g d ⟨h0,h1,c,m,o,⟨c0,e,a⟩,⟨c1,r1,f⟩,⟨c2,r2,l⟩,⟨c3,r,v3⟩,⟨c4,q,v4⟩⟩=>?_
  have b:=a.len;have k:=f.len;have j:=l.len;have n:=v3.len;have p:=v4.len
  exact ⟨iV d.kind::.string d.name::(AU d.farm++(AU d.reach++(iV d.rank::(c0++(c1++(c2++(c3++c4))))))),by simp[At,b,k,j,n,p],
   A6 h0 (A6 h1.2 (Ew c (Ew m (A6 o (Be b e (Be k r1 (Be j r2 (Be n r q)))))))),h1.1,c.1,m.1,c0,c1,c2,c3,c4,rfl,a,f,l,v3,v4⟩
 ·refine h.duties.isRow fun i g d ⟨h1,c,m,⟨c0,e,a⟩⟩=>?_
  have b:=a.len
  exact ⟨.string d.name::(AU d.farm++(AU d.reach++c0)),by simp[At,b],A6 h1.2 (Ew c (Ew m e)),h1.1,c.1,m.1,c0,rfl,a⟩
theorem JE{ops:Array Oper}{o:Oper}{a:Act}{K:Act->World->Prop}{Q:QT}{E:Prop}{W:World}{t e:TypeId}{w:TypeInfo}{z:Value}{size d:Nat}(R:Tryz.prog.underlying t=some (.slice e))(hi:Tryz.prog.info? e=some w)(L:w.zero=some z)(P:w.size=size)(N:w.bytes=d)(O:z.cells.size=size)(G:0 < size)(I:d<=10000)
 (B:Nat)(D:o.guard=none)(s x:Operand)(S:o.op=.call {callee:=.builtin .append,args:=#[s,x],argTypes:=#[t,t]})(v:Value)(n:Nat)(xs:LV)(hs:a.eval s=v)(f:W.ownsRow B e size v n xs)
 (X:Value)(m:Nat)(A:LV)(V:a.eval x=X)(Z:BI W X m size A)(r:n+m<=1000000)(l:B<=W.heap.size)
 (h:∀(y:Option Addr) (c:Nat) w',w'.ownsRow B e size (.slice y (n+m) c) (n+m) (xs++A)->W.grownBy w' v.ownBlock->K (a.put o.dst (.slice y (n+m) c)) w'):
  if Region.wanted o (yielded ops a.tmps)=true then Oper.wp Tryz.prog o a W K Q else E:=by
 have hw:Region.wanted o (yielded ops a.tmps)=true:=by simp[Region.wanted,D]
 rw[yD hw]
 obtain ⟨q,H,y,cap,rfl,k⟩:=Z
 by_cases U:m=0
 ·subst U
  obtain rfl:A=[]:=zr.1 (by simpa using q)
  have p:=EF R hi W B o.type v n xs f y cap
  obtain ⟨va,C,rfl⟩:∃a c,v=.slice a n c:=by
   rcases f.2 with ⟨rfl,M⟩|⟨g,cap,J,rfl,_⟩
   ·exact ⟨none,0,by rw[M]⟩
   ·exact ⟨_,_,rfl⟩
  unfold Oper.wp
  simp[execOp,S,resolve,invoke,builtin,hs,V,p,Result.andThen]
  have T:=h va C W (by simpa using f) ⟨rfl,rfl,rfl,yf _,fun _ _ _=>rfl⟩
  rw[qj] at T
  exact T
 ·obtain ⟨b,F,rfl,hb,hc⟩:=k.resolve_left U
  refine wp_append_own W s x t S B e w z size d R hi L P N O G v n xs hs f (aV b F) m cap A V q (fun j u hj=>?_) H (by unfold maxLen;omega) (by
   have:(n+m)*d<=1000000*10000:=qn r I
   omega) l ?_
  ·rw[zA];exact hc j u hj
  ·intro v' w' i Y _
   obtain ⟨va,C,rfl⟩:∃a c,v'=.slice a (n+m) c:=by
    rcases i.2 with ⟨rfl,M⟩|⟨g,cap,J,rfl,_⟩
    ·exact ⟨none,0,by rw[M]⟩
    ·exact ⟨_,_,rfl⟩
   exact h va C w' i Y
theorem It{ops:Array Oper}{o:Oper}{a:Act}{rest:List Oper}{Q:QT}{W:World}{t e:TypeId}{k:TypeInfo}{z:Value}{size b:Nat}(A:Tryz.prog.underlying t=some (.slice e))(hi:Tryz.prog.info? e=some k)(r:k.zero=some z)(y:k.size=size)(w:k.bytes=b)(u:z.cells.size=size)(l:0 < size)(q:b<=10000)
 (B:Nat)(d:o.guard=none)(s x:Operand)(D:o.op=.call {callee:=.builtin .append,args:=#[s,x],argTypes:=#[t,t]})(v:Value)(n:Nat)(xs:LV)(hs:a.eval s=v)(g:W.ownsRow B e size v n xs)
 (X:Value)(m:Nat)(p:LV)(G:a.eval x=X)(C:BI W X m size p)(i:n+m<=1000000)(f:B<=W.heap.size)
 (h:∀(j:Option Addr) (c:Nat) w',w'.ownsRow B e size (.slice j (n+m) c) (n+m) (xs++p)->W.grownBy w' v.ownBlock->wpList Tryz.prog ops Q rest (a.put o.dst (.slice j (n+m) c)) w'):wpList Tryz.prog ops Q (o::rest) a W:=
 zw d fun K H=>by
  have F:=JE (ops:=ops) (E:=True) (K:=K) (Q:=Q) A hi r y w u l q B d s x D v n xs hs g X m p G C i f (fun j c w' h1 h2=>H _ _ (h j c w' h1 h2))
  rwa [yD (by simp[Region.wanted,d])] at F
theorem FT:∀(a:List LV) (sz:Nat),(∀cs∈a,cs.length=sz)->a.flatten.length=a.length*sz∧∀i (h:i < a.length) j,j < sz->a.flatten[i*sz+j]?=a[i][j]?
 |[],sz,_=>⟨by simp,fun i h=>by simp at h⟩
 |c::r,sz,h=>by
  obtain ⟨h1,h2⟩:=FT r sz (fun cs b=>h cs (List.mem_cons_of_mem _ b))
  have b:=h c List.mem_cons_self
  refine ⟨by rw[zq,yn,h1,b,yv,Nat.add_mul];omega,fun i hi j d=>?_⟩
  cases i with
  |zero=>rw[zq,Nat.zero_mul,yw,zo (by omega)];rfl
  |succ i=>
   rw[zq,yV (by rw[b,Nat.add_mul];omega),b,show (i+1)*sz+j - sz=i*sz+j by rw[Nat.add_mul];omega]
   exact h2 i (by simpa using hi) j d
theorem Rg{α:Type}{N:NP}{w:World}{sz:Nat}{Q:LV->α->Prop}{h:As}{l:List α}(hr:BF N w sz Q h l)(hN:∀b,N b->b < w.heap.size)(r:∀cs d,Q cs d->∀v∈cs,v.oneCell'=true):
  ∃e:List LV,e.length=l.length∧(∀i (hi:i < e.length) (g:i < l.length),e[i].length=sz∧Q e[i] l[i])∧(∀cs∈e,cs.length=sz)∧BI w h.v h.n sz e.flatten:=by
 obtain ⟨h1,h2,h3⟩:=hr
 have t:∀i,∃cs:LV,∀(hi:i < l.length),cs.length=sz∧Q cs l[i]∧∃b o,h.a=some (aV b o)∧N b∧w.rangeAt b (o+i*sz) cs:=fun i=>by
  by_cases hi:i < l.length
  ·obtain ⟨b,o,cs,g1,G,M,J,I⟩:=h3 i hi
   exact ⟨cs,fun _=>⟨M,I,b,o,g1,G,J⟩⟩
  ·exact ⟨[],fun h=>absurd h hi⟩
 obtain ⟨F,k⟩:=Classical.axiomOfChoice t
 have s:((List.range l.length).map F).length=l.length:=by simp
 have A:∀i (hi:i < ((List.range l.length).map F).length),((List.range l.length).map F)[i]=F i:=fun i hi=>by simp
 have m:∀cs∈(List.range l.length).map F,cs.length=sz:=fun cs z=>by
  obtain ⟨i,hi,rfl⟩:=xO.1 z
  exact (k i (ze.1 hi)).1
 obtain ⟨C,K⟩:=FT _ sz m
 refine ⟨(List.range l.length).map F,s,fun i hi g=>by rw[A i hi];exact ⟨(k i g).1,(k i g).2.1⟩,m,⟨by rw[C,s,h1],fun u y=>?_,h.a,h.c,rfl,?_⟩⟩
 ·obtain ⟨cs,z,y⟩:=List.mem_flatten.1 y
  obtain ⟨i,hi,rfl⟩:=xO.1 z
  exact r _ _ (k i (ze.1 hi)).2.1 u y
 ·by_cases h0:h.n=0
  ·exact .inl h0
  ·obtain ⟨_,_,b,o,E,hb,_⟩:=k 0 (by omega)
   refine .inr ⟨b,o,E,hN b hb,fun j u B=>?_⟩
   have p:=(yx.1 B).1
   rw[C,s] at p
   have f:0 < sz:=by
    rcases Nat.eq_zero_or_pos sz with h|h
    ·subst h;omega
    ·exact h
   have hi:j / sz < l.length:=(Nat.div_lt_iff_lt_mul f).2 p
   have L:j % sz < sz:=Nat.mod_lt _ f
   have H:j / sz*sz+j % sz=j:=by rw[Nat.mul_comm];exact Nat.div_add_mod j sz
   have D:=K (j / sz) (by rw[s];exact hi) (j % sz) L
   rw[H,B,A] at D
   obtain ⟨_,_,P,O,q,_,x⟩:=k (j / sz) hi
   rw[E] at q
   cases q
   have:=x (j % sz) u D.symm
   rw[show o+j / sz*sz+j % sz=o+j by omega] at this
   exact this
def F2{α:Type}(w:World)(t sz:Nat)(Q:LV->α->Prop)(l:List α)(e:Ending)(w':World):Prop:=
 ∃h:As,e=.returned h.v∧h.n=l.length∧Below w.heap.size w w'∧∀i (hi:i < l.length),∃g cs,h.a=some ⟨g,0,none⟩∧w.heap.size<=g∧Ty w' g t∧cs.length=sz∧w'.rangeAt g (i*sz) cs∧Q cs l[i]
theorem Rh{α:Type}{w w1 w':World}{t sz:Nat}{Q:LV->α->Prop}{l:List α}{d:List LV}(I:d.length=l.length)(B:∀i (hi:i < d.length) (C:i < l.length),d[i].length=sz∧Q d[i] l[i])(p:∀cs∈d,cs.length=sz)
 {a:Option Addr}{n c:Nat}(G:n=l.length)(f:w'.ownsRow w.heap.size t sz (.slice a (0+n) c) (0+n) ([]++d.flatten))(hb:Below w.heap.size w w1)(k:w1.grownBy w' (some w.heap.size))(H:w.heap.size<=w1.heap.size):F2 w t sz Q l (.returned (.slice a (0+n) c)) w':=by
 rw[yw,yP] at f
 refine ⟨⟨a,n,c⟩,by rw[yw];rfl,G,hb.trans ⟨k.os,k.tape,k.output,k.size,fun b z=>k.block b (by omega) (fun e=>by cases e;omega)⟩,fun i hi=>?_⟩
 obtain ⟨J,F⟩:=FT d sz p
 have h:i < d.length:=by omega
 obtain ⟨x,D⟩:=B i h hi
 rcases f.2 with ⟨_,h0⟩|⟨g,cap,E,s,r,y,_,_,_,A⟩
 ·omega
 ·simp only[xW,qk] at s
  obtain ⟨rfl,rfl⟩:=s
  refine ⟨g,d[i],rfl,r,⟨_,y⟩,x,fun j u v=>?_,D⟩
  have m:=(yx.1 v).1
  rw[x] at m
  have o:=(F i h j m).trans v
  rw[<-A] at o
  have q:=(yx.1 o).1
  rw[zb] at q
  rw[zZ,yD (by omega)] at o
  simp only[World.cell?,y]
  simpa using o
section
variable{N:NP}{w:World}
theorem Eh(r:Rf):∀v∈AU r,v.oneCell'=true:=by intro v a;simp[AU] at a;rcases a with rfl|rfl<;>rfl
theorem Cq{v:Value}{l:LV}(h:v.oneCell'=true)(a:∀u∈l,u.oneCell'=true):∀u∈v::l,u.oneCell'=true:=fun u b=>(yN.1 b).elim (fun e=>e▸h) (a u)
theorem AN{l m:LV}(h:∀u∈l,u.oneCell'=true)(a:∀u∈m,u.oneCell'=true):∀u∈l++m,u.oneCell'=true:=fun u b=>(yy.1 b).elim (h u) (a u)
theorem BC{e:Ex}{c:LV}(h:AH N w e c):∀v∈c,v.oneCell'=true:=by
 obtain ⟨a,cap,rfl,_⟩:=h.cells
 intro v b
 simp at b
 rcases b with rfl|rfl|rfl|rfl|rfl|rfl<;>rfl
theorem Qk(cs:LV)(d:Ga)(h:K8 N w cs d):∀v∈cs,v.oneCell'=true:=by
 obtain ⟨_,c,rfl,g⟩:=h;exact Cq rfl (BC g)
theorem NA(cs:LV)(d:DD)(h:Hw N w cs d):∀v∈cs,v.oneCell'=true:=by
 obtain ⟨_,c,rfl,g⟩:=h;exact Cq rfl (BC g)
theorem IY(cs:LV)(d:AD)(h:EW N w cs d):∀v∈cs,v.oneCell'=true:=by
 obtain ⟨_,_,c0,c1,c2,c3,c4,c5,c6,c7,rfl,g,g1,a,i,f,e,b,c⟩:=h
 exact Cq rfl (AN (Eh _) (AN (BC g) (AN (BC g1) (AN (BC a) (AN (BC i) (AN (BC f) (AN (BC e) (AN (BC b) (BC c)))))))))
theorem NC(cs:LV)(d:CV)(h:Hx N w cs d):∀v∈cs,v.oneCell'=true:=by
 obtain ⟨_,_,_,c,rfl,g⟩:=h;exact Cq rfl (AN (Eh _) (Cq rfl (AN (BC g) (Eh _))))
theorem Sz(cs:LV)(d:Cm)(h:Fo N w cs d):∀v∈cs,v.oneCell'=true:=by
 obtain ⟨_,c,rfl,g⟩:=h;exact AN (Eh _) (BC g)
theorem IZ(cs:LV)(d:B6)(h:EX N w cs d):∀v∈cs,v.oneCell'=true:=by
 obtain ⟨_,_,_,c0,c1,c2,c3,c4,rfl,b,g1,a,c,e⟩:=h
 exact Cq rfl (Cq rfl (AN (Eh _) (AN (Eh _) (Cq rfl (AN (BC b) (AN (BC g1) (AN (BC a) (AN (BC c) (BC e)))))))))
theorem ND(cs:LV)(d:D6)(h:Hy N w cs d):∀v∈cs,v.oneCell'=true:=by
 obtain ⟨_,_,_,c,rfl,g⟩:=h;exact Cq rfl (AN (Eh _) (AN (Eh _) (BC g)))
end
theorem Nd{T e:Nat}(f:Tryz.prog.underlying T=some (.slice e))(w:World)(a:Option Addr)(n c b d:Nat):(binOp .eql T (.slice a n c) (.slice none b d)).run Tryz.prog w=.ok (.bool a.isNone) w:=Lib.run_eql_slice_nil w _ _ a n c b d f
def FD(fn:Nat):Prop:=∀(w:World) (n c:Nat),Calls Tryz.prog fn #[.slice none n c] w fun e w'=>e=.returned (.slice none 0 0)∧w'=w
def FE(fn T sz:Nat):Prop:=∀(w:World) (a:Addr) (n c:Nat) (xs:LV) (b:TypeInfo) (z:Value),Tryz.prog.info? T=some b->b.zero=some z->b.size=sz->z.cells.size=sz->b.bytes<=10000->BI (w.alloc (.cells #[] T)) (.slice (some a) n c) n sz xs->(w.alloc (.cells #[] T)).ownsRow w.heap.size T sz (.slice (some ⟨w.heap.size,0,none⟩) 0 0) 0 []->0+n<=1000000->w.heap.size<=(w.alloc (.cells #[] T)).heap.size->
  Calls Tryz.prog fn #[.slice (some a) n c] w fun e w'=>∃d c2,e=.returned (.slice d (0+n) c2)∧w'.ownsRow w.heap.size T sz (.slice d (0+n) c2) (0+n) ([]++xs)∧(w.alloc (.cells #[] T)).grownBy w' (some w.heap.size)
theorem De{fn T sz:Nat}(f:((Tryz.prog.info? T).bind fun i=>i.zero.map fun z=>(i.size,z.cells.size,decide (i.bytes<=10000)))=some (sz,sz,true))(r:FD fn)(y:FE fn T sz){α:Type}{N:NP}{w:World}{Q:LV->α->Prop}{h:As}{l:List α}(hr:BF N w sz Q h l)(hN:∀b,N b->b < w.heap.size)(q:∀cs d,Q cs d->∀v∈cs,v.oneCell'=true)(M:l.length<=100000):
  Calls Tryz.prog fn #[h.v] w (F2 w T sz Q l):=by
 obtain ⟨A,D,C,x,k⟩:=Rg hr hN q
 have m:=hr.1
 obtain ⟨a,n,c⟩:=h
 unfold As.v at k ⊢
 simp only at m k
 cases a with
 |none=>
  have t:l.length=0:=by
   rcases Nat.eq_zero_or_pos l.length with h|h
   ·exact h
   ·obtain ⟨_,_,_,h1,_⟩:=hr.2.2 0 h;cases h1
  refine (r w n c).mono ?_
  rintro e w' ⟨rfl,rfl⟩
  exact ⟨⟨none,0,0⟩,rfl,t.symm,yg _ _,fun i hi=>by omega⟩
 |some a=>
  cases hi:Tryz.prog.info? T with
  |none=>simp[hi] at f
  |some i0=>
  cases s:i0.zero with
  |none=>simp[hi,s] at f
  |some z=>
  simp only[hi,s,xr,xz,z8,zp,z7] at f
  have g:Below w.heap.size w (w.alloc (.cells #[] T)):=(yg _ _).alloc (yf _) _
  refine (y w a n c A.flatten i0 z hi s f.1 f.2.1 f.2.2 ?_ ⟨by simp,.inr ⟨w.heap.size,0,#[],rfl,yf _,World.alloc_heap_new _ _,yf _,yH _,by simp,by simp⟩⟩ (by omega) g.size).mono ?_
  ·obtain ⟨r1,r2,B,K,I,G⟩:=k
   refine ⟨r1,r2,B,K,I,G.imp id ?_⟩
   rintro ⟨b,o,e,hb,J⟩
   exact ⟨b,o,e,yu hb g.size,fun j u H=>(g.cell (p:=(aV b (o+j))) hb).trans (J j u H)⟩
  ·rintro e w' ⟨L,c2,rfl,F,E⟩
   exact Rh D C x m F g E g.size
theorem CI:FD 82∧FD 83∧FD 84∧FD 85∧FD 86∧FD 87∧FD 88∧FD 89∧FD 91:=by
 refine ⟨?_,?_,?_,?_,?_,?_,?_,?_,?_⟩
 all_goals
  intro w n c
  have j:=Nd qH
  have h:=Nd qI
  have a:=Nd qJ
  have i:=Nd qL
  have b:=Nd qM
  have f:=Nd qN
  have d:=Nd qO
  have e:=Nd qv
  have g:=Nd qF
  first|go_enter Tryz.func82,Tryz.ntmps82|go_enter Tryz.func83,Tryz.ntmps83|go_enter Tryz.func84,Tryz.ntmps84|go_enter Tryz.func85,Tryz.ntmps85|go_enter Tryz.func86,Tryz.ntmps86|go_enter Tryz.func87,Tryz.ntmps87|go_enter Tryz.func88,Tryz.ntmps88|go_enter Tryz.func89,Tryz.ntmps89|go_enter Tryz.func91,Tryz.ntmps91
  go_wp2
  go_ret
  exact ⟨rfl,rfl⟩
theorem CJ:FE 82 50 7∧FE 83 92 7∧FE 84 66 51∧FE 85 94 12∧FE 86 109 23∧FE 87 131 37∧FE 88 135 11∧FE 89 158 8∧FE 91 26 6:=by
 refine ⟨?_,?_,?_,?_,?_,?_,?_,?_,?_⟩
 all_goals
  intro w a n c xs M z hi l q p j f d e i
  have B:=yb hi;have v:=yb l;have t:=yb q;have x:=yb p;have u:=yb j
  have h:=yb f;have m:=yb d;have g:=yb e;have y:=yb i
  clear hi l q p j f d e i
  have L:=Nd qH
  have J:=Nd qI
  have H:=Nd qJ
  have E:=Nd qL
  have I:=Nd qM
  have F:=Nd qN
  have C:=Nd qO
  have K:=Nd qv
  have G:=Nd qF
  first|go_enter Tryz.func82,Tryz.ntmps82|go_enter Tryz.func83,Tryz.ntmps83|go_enter Tryz.func84,Tryz.ntmps84|go_enter Tryz.func85,Tryz.ntmps85|go_enter Tryz.func86,Tryz.ntmps86|go_enter Tryz.func87,Tryz.ntmps87|go_enter Tryz.func88,Tryz.ntmps88|go_enter Tryz.func89,Tryz.ntmps89|go_enter Tryz.func91,Tryz.ntmps91
  go_wp2_with (first|(at_builtin;refine It (by first|exact qH|exact qI|exact qJ|exact qL|exact qM|exact qN|exact qO|exact qv|exact qF) B.o v.o t.o rfl x.o (by decide) u.o w.heap.size rfl _ _ rfl (.slice (some (aV w.heap.size 0)) 0 0) 0 [] rfl m.o (.slice (some a) n c) n xs rfl h.o g.o y.o ?_;intro A c2 D b k;have r:=yb b;have s:=yb k;clear b k))
  go_ret
  exact ⟨A,c2,by simp,r.o,s.o⟩
theorem Ri{α:Type}{N:NP}{w:World}{Q:LV->α->Prop}{h:As}{l:List α}(hr:BF N w 7 Q h l)(hN:∀b,N b->b < w.heap.size)(a:∀cs d,Q cs d->∀v∈cs,v.oneCell'=true)(c:l.length<=100000):Calls Tryz.prog 82 #[h.v] w (F2 w 50 7 Q l):=De (by kernel_rfl) CI.1 CJ.1 hr hN a c
theorem Ph{α:Type}{N:NP}{w:World}{Q:LV->α->Prop}{h:As}{l:List α}(hr:BF N w 7 Q h l)(hN:∀b,N b->b < w.heap.size)(a:∀cs d,Q cs d->∀v∈cs,v.oneCell'=true)(c:l.length<=100000):Calls Tryz.prog 83 #[h.v] w (F2 w 92 7 Q l):=De (by kernel_rfl) CI.2.1 CJ.2.1 hr hN a c
theorem NF{α:Type}{N:NP}{w:World}{Q:LV->α->Prop}{h:As}{l:List α}(hr:BF N w 51 Q h l)(hN:∀b,N b->b < w.heap.size)(a:∀cs d,Q cs d->∀v∈cs,v.oneCell'=true)(c:l.length<=100000):Calls Tryz.prog 84 #[h.v] w (F2 w 66 51 Q l):=De (by kernel_rfl) CI.2.2.1 CJ.2.2.1 hr hN a c
theorem Pj{α:Type}{N:NP}{w:World}{Q:LV->α->Prop}{h:As}{l:List α}(hr:BF N w 12 Q h l)(hN:∀b,N b->b < w.heap.size)(a:∀cs d,Q cs d->∀v∈cs,v.oneCell'=true)(c:l.length<=100000):Calls Tryz.prog 85 #[h.v] w (F2 w 94 12 Q l):=De (by kernel_rfl) CI.2.2.2.1 CJ.2.2.2.1 hr hN a c
theorem Rj{α:Type}{N:NP}{w:World}{Q:LV->α->Prop}{h:As}{l:List α}(hr:BF N w 23 Q h l)(hN:∀b,N b->b < w.heap.size)(a:∀cs d,Q cs d->∀v∈cs,v.oneCell'=true)(c:l.length<=100000):Calls Tryz.prog 86 #[h.v] w (F2 w 109 23 Q l):=De (by kernel_rfl) CI.2.2.2.2.1 CJ.2.2.2.2.1 hr hN a c
theorem NG{α:Type}{N:NP}{w:World}{Q:LV->α->Prop}{h:As}{l:List α}(hr:BF N w 37 Q h l)(hN:∀b,N b->b < w.heap.size)(a:∀cs d,Q cs d->∀v∈cs,v.oneCell'=true)(c:l.length<=100000):Calls Tryz.prog 87 #[h.v] w (F2 w 131 37 Q l):=De (by kernel_rfl) CI.2.2.2.2.2.1 CJ.2.2.2.2.2.1 hr hN a c
theorem Pk{α:Type}{N:NP}{w:World}{Q:LV->α->Prop}{h:As}{l:List α}(hr:BF N w 11 Q h l)(hN:∀b,N b->b < w.heap.size)(a:∀cs d,Q cs d->∀v∈cs,v.oneCell'=true)(c:l.length<=100000):Calls Tryz.prog 88 #[h.v] w (F2 w 135 11 Q l):=De (by kernel_rfl) CI.2.2.2.2.2.2.1 CJ.2.2.2.2.2.2.1 hr hN a c
theorem Pl{α:Type}{N:NP}{w:World}{Q:LV->α->Prop}{h:As}{l:List α}(hr:BF N w 8 Q h l)(hN:∀b,N b->b < w.heap.size)(a:∀cs d,Q cs d->∀v∈cs,v.oneCell'=true)(c:l.length<=100000):Calls Tryz.prog 89 #[h.v] w (F2 w 158 8 Q l):=De (by kernel_rfl) CI.2.2.2.2.2.2.2.1 CJ.2.2.2.2.2.2.2.1 hr hN a c
theorem Pm{α:Type}{N:NP}{w:World}{Q:LV->α->Prop}{h:As}{l:List α}(hr:BF N w 6 Q h l)(hN:∀b,N b->b < w.heap.size)(a:∀cs d,Q cs d->∀v∈cs,v.oneCell'=true)(c:l.length<=100000):Calls Tryz.prog 91 #[h.v] w (F2 w 26 6 Q l):=De (by kernel_rfl) CI.2.2.2.2.2.2.2.2 CJ.2.2.2.2.2.2.2.2 hr hN a c
mutual
def Hs(w:World)(B:NP):Ex->LV->Prop
 |.mk op n u rn ri args,cs=>∃a cap,cs=[.int .i64 op,.int .i64 n,.int .i64 u,.string rn,.int .i64 ri,.slice a args.length cap]∧args.length<=140737488355328∧rn.size<=maxLen∧DA w B a 0 args
def DA(w:World)(B:NP)(a:Option Addr):Nat->List Ex->Prop
 |_,[]=>True
 |i,e::r=>(∃g cs,a=some ⟨g,0,none⟩∧B g∧Ty w g 26∧w.rangeAt g (i*6) cs∧Hs w B e cs)∧DA w B a (i+1) r
end
theorem Ql{w:World}{B:NP}{a:Option Addr}:∀ {l:List Ex} {k:Nat},(∀i (h:i < l.length),∃g cs,a=some ⟨g,0,none⟩∧B g∧Ty w g 26∧w.rangeAt g ((k+i)*6) cs∧Hs w B l[i] cs)->DA w B a k l
 |[],_,_=>by rw[DA];trivial
 |e::r,k,h=>by
  rw[DA]
  refine ⟨h 0 (by simp),Ql fun i hi=>?_⟩
  obtain ⟨g,cs,h1,h2,h3,c,b⟩:=h (i+1) (by simpa using hi)
  exact ⟨g,cs,h1,h2,h3,by rw[show k+1+i=k+(i+1) by omega];exact c,by simpa using b⟩
theorem Ty.same{w w':World}{b t:Nat}(h:Ty w b t)(hb:w'.heap[b]?=w.heap[b]?):Ty w' b t:=by
 obtain ⟨c,e⟩:=h
 exact ⟨c,hb.trans e⟩
mutual
theorem Hs.same{w w':World}{B c:NP}(d:∀b,B b->b < w.heap.size->c b)(hb:∀b,B b->b < w.heap.size->w'.heap[b]?=w.heap[b]?):∀ {e:Ex} {cs:LV},Hs w B e cs->Hs w' c e cs
 |.mk _ _ _ _ _ args,_,h=>by
  rw[Hs] at h ⊢
  obtain ⟨a,cap,h1,h2,h3,f⟩:=h
  exact ⟨a,cap,h1,h2,h3,DA.same d hb f⟩
theorem DA.same{w w':World}{B d:NP}(c:∀b,B b->b < w.heap.size->d b){a:Option Addr}(hb:∀b,B b->b < w.heap.size->w'.heap[b]?=w.heap[b]?):∀ {l:List Ex} {k:Nat},DA w B a k l->DA w' d a k l
 |[],_,h=>by rw[DA];trivial
 |e::r,k,h=>by
  rw[DA] at h ⊢
  obtain ⟨⟨g,cs,h1,h2,h3,j,i⟩,f⟩:=h
  exact ⟨⟨g,cs,h1,c g h2 h3.lt,h3.same (hb g h2 h3.lt),A0 j (hb g h2 h3.lt),Hs.same c hb i⟩,DA.same c hb f⟩
end
theorem Hs.mk'{w:World}{B:NP}{e:Ex}{a:Option Addr}{cap:Nat}(h1:e.args.length<=140737488355328)(h2:e.rn.size<=maxLen)(h3:DA w B a 0 e.args):
  Hs w B e [.int .i64 e.op,.int .i64 e.n,.int .i64 e.u,.string e.rn,.int .i64 e.ri,.slice a e.args.length cap]:=by
 cases e
 rw[Hs]
 exact ⟨a,cap,rfl,h1,h2,h3⟩
def VN(W:World)(b o:Nat)(args:List Ex)(w':World):Prop:=
 W.grownBy w' (some b)∧(∀p,p≠o+5->w'.cell? ⟨b,p,none⟩=W.cell? ⟨b,p,none⟩)∧(∀t,Ty W b t->Ty w' b t)∧∃a cap,w'.cell? ⟨b,o+5,none⟩=some (.slice a args.length cap)∧DA w' (fun b=>W.heap.size<=b) a 0 args
mutual
def FU:Ex->Prop
 |.mk _ _ _ _ _ args=>args.length<=100000∧GP args
def GP:List Ex->Prop
 |[]=>True
 |e::r=>FU e∧GP r
end
theorem M5:∀ {l:List Ex},GP l->∀i (h:i < l.length),FU l[i]
 |[],_,i,h=>by simp at h
 |e::r,hl,0,_=>by rw[GP] at hl;exact hl.1
 |e::r,hl,i+1,h=>by rw[GP] at hl;exact M5 hl.2 i (by simpa using h)
theorem Iu{W w':World}{b c p:Nat}(h:W.grownBy w' (some b))(d:c < W.heap.size)(a:c≠b):w'.cell? ⟨c,p,none⟩=W.cell? ⟨c,p,none⟩:=by
 unfold World.cell?
 rw[h.block c d (fun e=>a (by cases e;rfl))]
theorem Ty.frozen{w:World}{b t p:Nat}(h:Ty w b t):w.frozen? ⟨b,p,none⟩=false:=by
 obtain ⟨c,e⟩:=h
 simp[World.frozen?,e]
theorem Ac{W:World}{b p:Nat}{u:Value}(v:Value)(d:W.cell? ⟨b,p,none⟩=some u):
  W.grownBy (W.setCell ⟨b,p,none⟩ v) (some b)∧(∀q,q≠p->(W.setCell ⟨b,p,none⟩ v).cell? ⟨b,q,none⟩=W.cell? ⟨b,q,none⟩)∧(∀t,Ty W b t->Ty (W.setCell ⟨b,p,none⟩ v) b t)∧(W.setCell ⟨b,p,none⟩ v).cell? ⟨b,p,none⟩=some v:=by
 refine ⟨⟨rfl,rfl,rfl,by simp,fun i _ a=>zh W (aV b p) i v (fun e=>a (by rw[e]))⟩,fun q f=>World.cell?_setCell_other _ _ _ _ (fun e=>f (by cases e;rfl)),?_,World.cell?_setCell_same _ _ _ d⟩
 rintro t ⟨c,e⟩
 exact ⟨_,zm W b p c t v e⟩
structure TX (W:World) (N:Nat->Prop) (b o:Nat) (a:Option Addr) (c:Nat) (args:List Ex) (i:Nat) (wr:World):Prop where
 grown:W.grownBy wr (some b)
 cells:∀p,p≠o+5->wr.cell? ⟨b,p,none⟩=W.cell? ⟨b,p,none⟩
 hdr:wr.cell? ⟨b,o+5,none⟩=some (.slice a args.length c)
 ty:∀t,Ty W b t->Ty wr b t
 rows:∀j (h:j < args.length),∃g cs,a=some ⟨g,0,none⟩∧W.heap.size<=g∧Ty wr g 26∧wr.rangeAt g (j*6) cs∧((j < i∧Hs wr (fun b=>g+1<=b) args[j] cs)∨(i<=j∧AH N wr args[j] cs))
theorem TX.drew{W:World}{N:NP}{b o:Nat}{a:Option Addr}{c:Nat}{args:List Ex}{i:Nat}{wr:World}(h:TX W N b o a c args i wr):TX W N b o a c args i wr.drew:=by
 refine ⟨⟨h.grown.os,h.grown.tape,h.grown.output,h.grown.size,h.grown.block⟩,h.cells,h.hdr,h.ty,fun j f=>?_⟩
 obtain ⟨g,cs,h1,h2,h3,e,d⟩:=h.rows j f
 refine ⟨g,cs,h1,h2,h3,e,d.imp (fun h=>⟨h.1,Hs.same (w:=wr) (w':=wr.drew) (fun _ h _=>h) (fun _ _ _=>rfl) h.2⟩) (fun h=>⟨h.1,AH.same (w:=wr) (w':=wr.drew) (fun _ h=>h) (fun _ _=>rfl) h.2⟩)⟩
theorem TX.next{W:World}{N:NP}{b o:Nat}{a:Option Addr}{c:Nat}{args:List Ex}{i:Nat}{wr w4:World}(h:TX W N b o a c args i wr)(hi:i < args.length)(hb:b < W.heap.size)(hN:∀c,N c->c < W.heap.size∧c≠b){g:Nat}(E:a=some ⟨g,0,none⟩)
 (z:VN wr g (i*6) args[i].args w4):TX W N b o a c args (i+1) w4:=by
 obtain ⟨f,l,D,a',A,Q,T⟩:=z
 obtain ⟨U,cs,h1,h2,h3,h4,h5⟩:=h.rows i hi
 obtain rfl:g=U:=by rw[E] at h1;cases h1;rfl
 have K:=h.grown.size
 have r:b≠g:=by omega
 have X:=h3.lt
 have J:w4.heap[b]?=wr.heap[b]?:=f.block b (by omega) (fun e=>r (by cases e;rfl))
 have B:∀p,w4.cell? (aV b p)=wr.cell? (aV b p):=fun p=>by unfold World.cell?;rw[J]
 refine ⟨⟨f.os.trans h.grown.os,f.tape.trans h.grown.tape,f.output.trans h.grown.output,yt K f.size,fun q O u=>(f.block q (by omega) (fun e=>by cases e;omega)).trans (h.grown.block q O u)⟩,fun p Z=>(B p).trans (h.cells p Z),(B _).trans h.hdr,fun t L=>(h.ty t L).same J,fun j S=>?_⟩
 obtain ⟨g1,cj,n,F,C,G,d⟩:=h.rows j S
 obtain rfl:g=g1:=by rw[E] at n;cases n;rfl
 by_cases y:j=i
 ·subst y
  rcases d with ⟨d,_⟩|⟨_,d⟩
  ·omega
  obtain ⟨a0,H,rfl,Y,P,e3⟩:=d.cells
  obtain ⟨r0,r1,r2,V,R,r5⟩:=Bn G
  refine ⟨g,_,n,F,D _ C,A6 ((l _ (by omega)).trans r0) (A6 ((l _ (by omega)).trans r1) (A6 ((l _ (by omega)).trans r2) (A6 ((l _ (by omega)).trans V) (A6 ((l _ (by omega)).trans R) (BU Q))))),.inl ⟨by omega,Hs.mk' Y P (T.same (fun x m _=>by have:wr.heap.size<=x:=m;show g+1<=x;omega) (fun _ _ _=>rfl))⟩⟩
 ·refine ⟨g,cj,n,F,D _ C,fun k v I=>?_,?_⟩
  ·have hl:k < 6:=by
    have h1:=(yx.1 I).1
    rcases d with ⟨_,d⟩|⟨_,d⟩
    ·cases M:args[j] with
     |mk=>rw[M,Hs] at d;obtain ⟨_,_,rfl,_⟩:=d;simpa using h1
    ·rw[d.len] at h1;exact h1
   exact (l _ (by omega)).trans (G k v I)
  ·rcases d with ⟨d,s⟩|⟨d,s⟩
   ·exact .inl ⟨by omega,s.same (fun _ h _=>h) (fun x m w=>f.block x w (fun e=>by cases e;have:g+1<=g:=m;omega))⟩
   ·exact .inr ⟨by omega,s.same (fun _ h=>h) (fun x m=>f.block x (by have:=(hN x m).1;omega) (fun e=>by cases e;have:=(hN g m).1;omega))⟩
theorem SA(N:NP)(Bx:Nat):∀(e:Ex) (b o t:Nat) (cs:LV) (W:World),AH N W e cs->W.rangeAt b o cs->Ty W b t->FU e->(∀c,N c->c < W.heap.size∧c≠b)->Bx≠b->W.cell? ⟨Bx,0,none⟩=some (.func (.func 90) #[] #[.pointer (some ⟨Bx,0,none⟩)])->
  Calls Tryz.prog 90 #[.pointer (some ⟨b,o,none⟩),.pointer (some ⟨Bx,0,none⟩)] W fun x w'=>x=.returned (.tuple #[])∧VN W b o e.args w':=by
 refine IQ fun op nn u rn ri args ih=>?_
 intro b o t cs W T Y ty y hN P s
 rw[AH] at T
 obtain ⟨a,cap,rfl,hl,hr,E⟩:=T
 rw[FU] at y
 obtain ⟨-, -, -, -, -,c5⟩:=Bn Y
 have X:BF N W 6 (fun c d=>AH N W d c) ⟨a,args.length,cap⟩ args:=⟨rfl,hl,fun i hi=>by
  obtain ⟨b',o',c,g1,g2,g3,g4⟩:=Dr E i hi
  exact ⟨b',o',c,g1,g2,g4.len,by rw[yw] at g3;exact g3,g4⟩⟩
 have A:=Pm X (fun c hc=>(hN c hc).1) (fun c d h=>BC h) y.1
 have ad:=yb A
 have IH:=yb ih
 have HN:=yb hN
 have aa:=yb ty
 have ah:=yb y.2
 have ab:=yb y.1
 have a8:=yb (yO W _ s)
 have r:=yb (yO W _ c5)
 have M:=yb P
 have w:=yb s
 show Calls _ _ _ _ (fun x w'=>x=.returned (.tuple #[])∧VN W b o args w')
 clear X A ih hN ty y Y E s P hl hr
 go_enter Tryz.func90,Tryz.ntmps90
 go_wp2_with (first|(go_at_call 91;refine ad.o.mono ?_;rintro e w1 ⟨⟨m,n',f⟩,rfl,G,B,n⟩;rw[show As.v ⟨m,n',f⟩=Value.slice m n' f from rfl];simp only at G n;have d5:=(B.cell (p:=(aV b (o+5))) r.o).trans c5;have df:=(Ty.same aa.o (B.block b r.o)).frozen (p:=o+5);have l:=yb B;have U:=yb G;have z:=yb n;clear B G n))
 obtain rfl:=U.o.symm
 have hI:TX W N b o m f args 0 (w1.setCell (aV b (o+5)) (.slice m args.length f)):=by
  obtain ⟨I,s2,s3,s4⟩:=Ac (.slice m args.length f) d5
  have ag:=l.o.size
  refine ⟨⟨I.os.trans l.o.os,I.tape.trans l.o.tape,I.output.trans l.o.output,yt ag I.size,fun q hq af=>(I.block q (by omega) af).trans (l.o.block q hq)⟩,fun p hp=>(s2 p hp).trans (l.o.cell (p:=(aV b p)) r.o),s4,fun t ht=>s3 t (ht.same (l.o.block b r.o)),fun j hj=>?_⟩
  obtain ⟨g,cs,q1,R,H,L,K,q6⟩:=z.o j hj
  have ac:g≠b:=by have:=r.o;omega
  have hg:(w1.setCell (aV b (o+5)) (.slice m args.length f)).heap[g]?=w1.heap[g]?:=I.block g H.lt (fun e=>ac (by cases e;rfl))
  refine ⟨g,cs,q1,R,H.same hg,A0 K hg,.inr ⟨yH _,q6.same (fun _ h=>h) (fun x hx=>?_)⟩⟩
  have Z:=HN.o x hx
  exact (I.block x (by omega) (fun e=>Z.2 (by cases e;rfl))).trans (l.o.block x Z.1)
 have S:=yb hI
 have ai:args.length<=100000:=ab.o
 clear hI d5 df c5
 generalize w1.setCell (aV b (o+5)) (.slice m args.length f)=w2 at*
 have e5:=S.o.hdr
 clear l z U
 go_wp2
 clear e5
 go_loopw [17] (fun iv wr=>∃i:Nat,i<=args.length∧iv=iV i∧Hid (TX W N b o m f args i wr)) (fun iv _=>args.length - (intOf iv).toNat)
 case atStart=>exact ⟨0,yH _,rfl,S⟩
 case round=>
  obtain ⟨i,hi,rfl,k⟩:=hrel
  by_cases C:i < args.length
  ·obtain ⟨g,cs,rfl,R,H,L,K⟩:=k.o.drew.rows i C
   have T:AH N wr.drew args[i] cs:=K.elim (fun h=>by omega) (fun h=>h.2)
   have hz:=k.o.grown.size
   have a0:=r.o
   have J:=a8.o
   have D:wr.drew.cell? (aV Bx 0)=some (.func (.func 90) #[] #[pV Bx 0]):=(Iu k.o.grown J M.o).trans w.o
   have F:=IH.o args[i] (yJ C) g (i*6) 26 cs wr.drew T L H (M5 ah.o i C) (fun c hc=>by have:=HN.o c hc;show c < wr.heap.size∧_;omega) (by omega) D
   have O:=yb F
   have a7:(i:Int) < (args.length:Int):=by omega
   have Q:=fun w4=>k.o.drew.next (w4:=w4) C a0 HN.o rfl
   have a6:=yb Q
   have e5:=k.o.hdr
   have eB:wr.cell? (aV Bx 0)=some (.func (.func 90) #[] #[pV Bx 0]):=D
   have ae:Hid (wr.drew.cell? (aV Bx 0)=some (.func (.func 90) #[] #[pV Bx 0])∧wr.drew.cell? (aV b (o+5))=some (.slice (some (aV g 0)) args.length f)):=yb ⟨D,e5⟩
   have HQ:Hid (∀w4,TX W N b o (some (aV g 0)) f args (i+1) w4->w4.cell? (aV Bx 0)=some (.func (.func 90) #[] #[pV Bx 0])∧w4.cell? (aV b (o+5))=some (.slice (some (aV g 0)) args.length f)):=yb (fun w4 h=>⟨(Iu h.grown J M.o).trans w.o,h.hdr⟩)
   clear T R H L K hz a0 J D F Q
   go_wp2_with fail
   go_region_held3 (fun w'=>w'.cell? (aV Bx 0)=some (.func (.func 90) #[] #[pV Bx 0])∧w'.cell? (aV b (o+5))=some (.slice (some (aV g 0)) args.length f)) (first|exact ae.o|exact a2.o)
    (first|(go_at_call 90;refine O.o.mono ?_;rintro e w4 ⟨rfl,A⟩;have V:=yb (a6.o w4 A);have a2:=yb (HQ.o w4 V.o);clear A))
   go_wp2
   exact ⟨⟨i+1,by omega,by push_cast;rfl,V⟩,by simp[intOf];omega⟩
  ·obtain rfl:i=args.length:=by omega
   have a7:decide ((args.length:Int) < (args.length:Int))=false:=by simp
   go_wp2
   go_end0
   refine ⟨rfl,k.o.grown,k.o.cells,k.o.ty,m,f,k.o.hdr,Ql fun j hj=>?_⟩
   obtain ⟨g,cs,q1,R,H,L,K⟩:=k.o.rows j hj
   rw[yw]
   exact ⟨g,cs,q1,R,H,L,K.elim (fun h=>h.2.same (fun x hx _=>by have:g+1<=x:=hx;show W.heap.size<=x;omega) (fun _ _ _=>rfl)) (fun h=>by omega)⟩
theorem Qm:∀(e:Ex) {N N':NP} {w:World} {d:Ex} {cs:LV},AH N w e cs->AH N' w d cs->e=d:=by
 refine IQ fun op nn u rn ri args ih=>?_
 intro N N' w d cs h r
 cases d with
 |mk op' nn' u' rn' ri' args'=>
  rw[AH] at h r
  obtain ⟨a,cap,rfl,_,_,hr⟩:=h
  obtain ⟨A,l,m,_,_,k⟩:=r
  simp only[xG,Value.int.injEq,Value.string.injEq,xW,qk,and_true] at m
  obtain ⟨rfl,rfl,rfl,rfl,rfl,rfl,t,rfl⟩:=m
  have:args=args':=by
   refine xP t fun i hi g=>?_
   obtain ⟨b,o,c,g1,_,y,p⟩:=Dr hr i hi
   obtain ⟨C,B,z,q,_,s,n⟩:=Dr k i g
   rw[g1] at q
   cases q
   have x:c=z:=by
    refine xP (by rw[p.len,n.len]) fun j v f=>?_
    have h1:=y j _ (yk v)
    have h2:=s j _ (yk f)
    rw[h1] at h2
    exact yi h2
   subst x
   exact ih _ (yJ hi) p n
  rw[this]
mutual
theorem Hs.exV{w:World}{M N:NP}(hM:∀b,M b->b < w.heap.size->N b):∀ {e:Ex} {cs:LV},Hs w M e cs->AH N w e cs
 |.mk _ _ _ _ _ args,_,h=>by
  rw[Hs] at h
  rw[AH]
  obtain ⟨a,cap,h1,h2,h3,c⟩:=h
  exact ⟨a,cap,h1,h2,h3,DA.rowV hM c⟩
theorem DA.rowV{w:World}{M N:NP}{a:Option Addr}(hM:∀b,M b->b < w.heap.size->N b):∀ {l:List Ex} {k:Nat},DA w M a k l->D5 N w a k l
 |[],_,h=>by rw[D5];trivial
 |e::r,k,h=>by
  rw[DA] at h
  rw[D5]
  obtain ⟨⟨g,cs,h1,h2,h3,f,d⟩,c⟩:=h
  exact ⟨⟨g,0,cs,h1,hM g h2 h3.lt,by rw[yw];exact f,Hs.exV hM d⟩,DA.rowV hM c⟩
end
def Gy{α:Type}(B:Nat)(W:World)(t sz:Nat)(Q:LV->α->Prop)(h:As)(l:List α):Prop:=
 h.n=l.length∧∀i (hi:i < l.length),∃g cs,h.a=some ⟨g,0,none⟩∧B<=g∧Ty W g t∧cs.length=sz∧W.rangeAt g (i*sz) cs∧Q cs l[i]
theorem Gy.of{α:Type}{B b:Nat}{W:World}{t sz:Nat}{Q:LV->α->Prop}{h:As}{l:List α}(d:h.n=l.length)(c:B<=b)(hr:∀i (hi:i < l.length),∃g cs,h.a=some ⟨g,0,none⟩∧b<=g∧Ty W g t∧cs.length=sz∧W.rangeAt g (i*sz) cs∧Q cs l[i]):Gy B W t sz Q h l:=
 ⟨d,fun i hi=>by
  obtain ⟨g,cs,h1,h2,h3⟩:=hr i hi
  exact ⟨g,cs,h1,yt c h2,h3⟩⟩
theorem Gy.up{α:Type}{B:Nat}{W W':World}{t sz:Nat}{Q:LV->α->Prop}{h:As}{l:List α}(hr:Gy B W t sz Q h l)(hb:∀b,B<=b->b < W.heap.size->W'.heap[b]?=W.heap[b]?):Gy B W' t sz Q h l:=
 ⟨hr.1,fun i hi=>by
  obtain ⟨g,cs,h1,h2,h3,d,c,a⟩:=hr.2 i hi
  exact ⟨g,cs,h1,h2,h3.same (hb g h2 h3.lt),d,A0 c (hb g h2 h3.lt),a⟩⟩
theorem Gy.upT{α:Type}{B:Nat}{W W':World}{t sz:Nat}{Q:LV->α->Prop}{h:As}{l:List α}(hr:Gy B W t sz Q h l)(hb:∀b,B<=b->Ty W b t->W'.heap[b]?=W.heap[b]?):Gy B W' t sz Q h l:=
 ⟨hr.1,fun i hi=>by
  obtain ⟨g,cs,h1,h2,h3,d,c,a⟩:=hr.2 i hi
  exact ⟨g,cs,h1,h2,h3.same (hb g h2 h3),d,A0 c (hb g h2 h3),a⟩⟩
theorem Cd{w:World}{b o:Nat}{v:Value}{l:LV}(h:w.rangeAt b o (v::l)):w.cell? ⟨b,o,none⟩=some v∧w.rangeAt b (o+1) l:=
 ⟨h 0 v rfl,fun j u a=>by have:=h (j+1) u (by simpa using a);rw[show o+1+j=o+(j+1) by omega];exact this⟩
theorem M6{w:World}{b o:Nat}{l m:LV}(h:w.rangeAt b o (l++m)):w.rangeAt b o l∧w.rangeAt b (o+l.length) m:=
 ⟨fun j u a=>h j u (by rw[zo (yx.1 a).1];exact a),fun j u a=>by
  have:=h (l.length+j) u (by rw[yV (by omega),xi];exact a)
  rw[show o+l.length+j=o+(l.length+j) by omega];exact this⟩
theorem BV{w:World}{b o:Nat}{c l:LV}(a:c.length=6)(h:w.rangeAt b o (c++l)):w.rangeAt b o c∧w.rangeAt b (o+6) l:=by
 have:=M6 h
 rw[a] at this;exact this
theorem DS{w:World}{b o:Nat}{r:Rf}{l:LV}(hs:r.name.size<=maxLen)(to:Int)(h:w.rangeAt b o (AU r++l)):RV w to r b o∧w.rangeAt b (o+2) l:=by
 obtain ⟨h1,h2⟩:=M6 h
 exact ⟨⟨hs,h1 0 _ rfl,h1 1 _ rfl⟩,h2⟩
section
variable{N N':NP}{w W:World}{B:Nat}{h:As}
theorem CX(hb:∀b,N b->W.heap[b]?=w.heap[b]?){e:Ex}{c:LV}{b o:Nat}(lt:Int)(a:AH N w e c)(hr:W.rangeAt b o c):EV N W lt e b o:=⟨c,hr,a.same (fun _ h=>h) hb⟩
theorem Gj{α:Type}{t sz:Nat}{Q:LV->α->Prop}{P:Nat->Nat->Nat->α->Prop}{l:List α}(hr:Gy B W t sz Q h l)(e:l.length<=100000)(hN:∀g,B<=g->N' g)(d:∀i (_:i < l.length) g cs,h.a=some ⟨g,0,none⟩->W.rangeAt g (i*sz) cs->Q cs l[i]->P i g (i*sz) l[i]):E9 N' W t sz P h l:=
 ⟨hr.1,by omega,fun i hi=>by
  obtain ⟨g,cs,h1,h2,h3,f,c,b⟩:=hr.2 i hi
  exact ⟨g,h1,hN g h2,h3,d i hi g cs h1 c b⟩⟩
variable(hb:∀b,N b->W.heap[b]?=w.heap[b]?)
include hb
theorem Rk(i g o:Nat)(cs:LV)(d:Ga)(hr:W.rangeAt g o cs)(h:K8 N w cs d):Vj (EV N W) W i g o d:=by
 obtain ⟨h1,c,rfl,h2⟩:=h
 obtain ⟨a,r1⟩:=Cd hr
 exact ⟨⟨h1,a⟩,CX hb _ h2 r1⟩
theorem Pn(i g o:Nat)(cs:LV)(d:DD)(hr:W.rangeAt g o cs)(h:Hw N w cs d):UC (EV N W) W i g o d:=by
 obtain ⟨h1,c,rfl,h2⟩:=h
 obtain ⟨a,r1⟩:=Cd hr
 exact ⟨⟨h1,a⟩,CX hb _ h2 r1⟩
theorem NH(i g o:Nat)(cs:LV)(d:AD)(hr:W.rangeAt g o cs)(h:EW N w cs d):Sw (EV N W) (RV W) W i g o d:=by
 obtain ⟨h1,h2,c0,c1,c2,c3,c4,c5,c6,c7,rfl,j,g1,a,k,e,c,b,n⟩:=h
 obtain ⟨v,r⟩:=Cd hr
 obtain ⟨f,r⟩:=DS h2 (if i=0 then 0 else 6) r
 obtain ⟨t,r⟩:=BV j.len r
 obtain ⟨p,r⟩:=BV g1.len r
 obtain ⟨m,r⟩:=BV a.len r
 obtain ⟨s,r⟩:=BV k.len r
 obtain ⟨q,r⟩:=BV e.len r
 obtain ⟨x,r⟩:=BV c.len r
 obtain ⟨l,u⟩:=BV b.len r
 exact ⟨⟨h1,v⟩,f,CX hb _ j t,CX hb _ g1 p,CX hb _ a m,CX hb _ k s,CX hb _ e q,CX hb _ c x,CX hb _ b l,CX hb _ n u⟩
theorem Po(i g o:Nat)(cs:LV)(d:CV)(hr:W.rangeAt g o cs)(h:Hx N w cs d):UD (EV N W) (RV W) W i g o d:=by
 obtain ⟨h1,h2,h3,c0,rfl,a⟩:=h
 obtain ⟨e,r⟩:=Cd hr
 obtain ⟨f,r⟩:=DS h2 4 r
 obtain ⟨v,r⟩:=Cd r
 obtain ⟨c,r⟩:=BV a.len r
 obtain ⟨b,_⟩:=DS (l:=[]) h3 (if d.river then 0 else 3) (by rw[yS];exact r)
 exact ⟨⟨h1,e⟩,f,v,CX hb _ a c,b⟩
theorem Pq(i g o:Nat)(cs:LV)(d:Cm)(hr:W.rangeAt g o cs)(h:Fo N w cs d):UE (EV N W) (RV W) i g o d:=by
 obtain ⟨h1,c0,rfl,a⟩:=h
 obtain ⟨f,r⟩:=DS h1 5 hr
 exact ⟨f,CX hb _ a r⟩
theorem NI(i g o:Nat)(cs:LV)(d:B6)(hr:W.rangeAt g o cs)(h:EX N w cs d):Sx (EV N W) (RV W) W i g o d:=by
 obtain ⟨h1,h2,h3,c0,c1,c2,c3,c4,rfl,b,g1,a,c,m⟩:=h
 obtain ⟨k,r⟩:=Cd hr
 obtain ⟨s,r⟩:=Cd r
 obtain ⟨f,r⟩:=DS h2 5 r
 obtain ⟨p,r⟩:=DS h3 (if d.kind=1 then 0 else 4) r
 obtain ⟨v,r⟩:=Cd r
 obtain ⟨q,r⟩:=BV b.len r
 obtain ⟨j,r⟩:=BV g1.len r
 obtain ⟨e,r⟩:=BV a.len r
 obtain ⟨n,l⟩:=BV c.len r
 exact ⟨k,⟨h1,s⟩,f,p,v,CX hb _ b q,CX hb _ g1 j,CX hb _ a e,CX hb _ c n,CX hb _ m l⟩
theorem Ps(i g o:Nat)(cs:LV)(d:D6)(hr:W.rangeAt g o cs)(h:Hy N w cs d):UF (EV N W) (RV W) W i g o d:=by
 obtain ⟨h1,h2,h3,c0,rfl,a⟩:=h
 obtain ⟨c,r⟩:=Cd hr
 obtain ⟨f,r⟩:=DS h2 5 r
 obtain ⟨b,r⟩:=DS h3 4 r
 exact ⟨⟨h1,c⟩,f,b,CX hb _ a r⟩
end
structure MB (x:Ax):Prop where
 lets:x.lets.length<=100000
 crops:x.crops.length<=100000
 reaches:x.reaches.length<=100000
 farms:x.farms.length<=100000
 rots:x.rots.length<=100000
 rights:x.rights.length<=100000
 duties:x.duties.length<=100000
 turns:∀d∈x.rots,d.turns.length<=100000
 exprs:∀e∈Ay x,FU e.1
theorem SB{N N':NP}{w U W:World}{B:Nat}{L L':Bq}{l:List BA}(hb:∀b,N b->W.heap[b]?=w.heap[b]?)(hr:Gy B U 109 23 (fun cs (d:BA × Nat)=>GM N w (A2 L d.2) cs d.1) L'.rots l.zipIdx)(hN:∀g,B<=g->N' g)(Q:l.length<=100000)
 (t:∀d∈l,d.turns.length<=100000)(x:∀g,L'.rots.a=some ⟨g,0,none⟩->Ty U g 109->Ty W g 109)(J:∀g,L'.rots.a=some ⟨g,0,none⟩->∀i q,q < 22->W.cell? ⟨g,i*23+q,none⟩=U.cell? ⟨g,i*23+q,none⟩)
 (M:∀i (_:i < l.length) g,L'.rots.a=some ⟨g,0,none⟩->W.cell? ⟨g,i*23+22,none⟩=some (A2 L' i).v)(E:∀i (h:i < l.length),Gy B W 158 8 (Fo N w) (A2 L' i) l[i].turns):
  E9 N' W 109 23 (UO N' (EV N W) (RV W) W (A2 L')) L'.rots l:=by
 refine ⟨by have:=hr.1;rwa [zB] at this,by omega,fun i hi=>?_⟩
 obtain ⟨g,cs,n,C,G,P,I,y⟩:=hr.2 i (by rw[zB];exact hi)
 rw[qd] at y
 simp only[yw] at y
 refine ⟨g,n,hN g C,x g n G,?_⟩
 obtain ⟨h1,h2,c0,c1,c2,rfl,s,g1,z,_⟩:=y
 have p:W.rangeAt g (i*23) (.string l[i].name::(AU l[i].on++(iV l[i].rank::(c0++(c1++c2))))):=fun j u A=>by
  have c:=(yx.1 A).1
  have m:(Value.string l[i].name::(AU l[i].on++(iV l[i].rank::(c0++(c1++c2))))).length=22:=by simp[At,s.len,g1.len,z.len]
  rw[m] at c
  rw[J g n i j c]
  refine I j u ?_
  have e:(Value.string l[i].name::(AU l[i].on++(iV l[i].rank::(c0++(c1++(c2++[(A2 L i).v]))))))=(Value.string l[i].name::(AU l[i].on++(iV l[i].rank::(c0++(c1++c2)))))++[(A2 L i).v]:=by simp
  rw[e,zo (by omega)]
  exact A
 obtain ⟨O,r⟩:=Cd p
 obtain ⟨f,r⟩:=DS h2 4 r
 obtain ⟨v,r⟩:=Cd r
 obtain ⟨K,r⟩:=BV s.len r
 obtain ⟨H,D⟩:=BV g1.len r
 exact ⟨⟨h1,O⟩,f,v,CX hb _ s K,CX hb _ g1 H,CX hb _ z D,M i hi g n,Gj (E i hi) (t _ (yJ hi)) hN (fun k R g cs _ o F=>Pq hb k g (k*8) cs _ o F)⟩
theorem Pt{N N':NP}{w W:World}{B:Nat}{L:Bq}{x:Ax}{f a1 c:Option Addr}{d e h:Nat}(hb:∀b,N b->W.heap[b]?=w.heap[b]?)(hN:∀g,B<=g->N' g)(hs:MB x)
 (k:W.heap[L.s]?=some (.cells #[.string x.name,.int .i64 x.season.op,.int .i64 x.season.n,.int .i64 x.season.u,.string x.season.rn,.int .i64 x.season.ri,.slice f x.season.args.length d,.int .i64 x.cap.op,.int .i64 x.cap.n,.int .i64 x.cap.u,.string x.cap.rn,.int .i64 x.cap.ri,.slice a1 x.cap.args.length e,.int .i64 x.start.op,.int .i64 x.start.n,.int .i64 x.start.u,.string x.start.rn,.int .i64 x.start.ri,.slice c x.start.args.length h,L.lets.v,L.crops.v,L.reaches.v,L.farms.v,L.rots.v,L.rights.v,L.duties.v] 35 (0,0)))(r:x.name.size<=maxLen)(h0:AH N w x.season [.int .i64 x.season.op,.int .i64 x.season.n,.int .i64 x.season.u,.string x.season.rn,.int .i64 x.season.ri,.slice f x.season.args.length d])(h1:AH N w x.cap [.int .i64 x.cap.op,.int .i64 x.cap.n,.int .i64 x.cap.u,.string x.cap.rn,.int .i64 x.cap.ri,.slice a1 x.cap.args.length e])(h2:AH N w x.start [.int .i64 x.start.op,.int .i64 x.start.n,.int .i64 x.start.u,.string x.start.rn,.int .i64 x.start.ri,.slice c x.start.args.length h])
 (p:Gy B W 50 7 (K8 N w) L.lets x.lets)(rc:Gy B W 92 7 (Hw N w) L.crops x.crops)(l:Gy B W 66 51 (EW N w) L.reaches x.reaches)(m:Gy B W 94 12 (Hx N w) L.farms x.farms)
 (q:E9 N' W 109 23 (UO N' (EV N W) (RV W) W (A2 L)) L.rots x.rots)(ri:Gy B W 131 37 (EX N w) L.rights x.rights)(t:Gy B W 135 11 (Hy N w) L.duties x.duties):C8 N' (EV N W) (RV W) W L x:=by
 have cell:∀j v,#[.string x.name,iV x.season.op,iV x.season.n,iV x.season.u,.string x.season.rn,iV x.season.ri,.slice f x.season.args.length d,iV x.cap.op,iV x.cap.n,iV x.cap.u,.string x.cap.rn,iV x.cap.ri,.slice a1 x.cap.args.length e,iV x.start.op,iV x.start.n,iV x.start.u,.string x.start.rn,iV x.start.ri,.slice c x.start.args.length h,L.lets.v,L.crops.v,L.reaches.v,L.farms.v,L.rots.v,L.rights.v,L.duties.v][j]?=some v->W.cell? (aV L.s j)=some v:=fun j v o=>by simp only[World.cell?,k];simpa using o
 refine ⟨⟨_,k⟩,⟨r,cell 0 _ rfl⟩,?_,?_,?_,cell 19 _ rfl,cell 20 _ rfl,cell 21 _ rfl,cell 22 _ rfl,cell 23 _ rfl,cell 24 _ rfl,cell 25 _ rfl,?_,?_,?_,?_,q,?_,?_⟩
 ·exact CX hb 0 h0 (A6 (cell 1 _ rfl) (A6 (cell 2 _ rfl) (A6 (cell 3 _ rfl) (A6 (cell 4 _ rfl) (A6 (cell 5 _ rfl) (BU (cell 6 _ rfl)))))))
 ·exact CX hb 0 h1 (A6 (cell 7 _ rfl) (A6 (cell 8 _ rfl) (A6 (cell 9 _ rfl) (A6 (cell 10 _ rfl) (A6 (cell 11 _ rfl) (BU (cell 12 _ rfl)))))))
 ·exact CX hb 0 h2 (A6 (cell 13 _ rfl) (A6 (cell 14 _ rfl) (A6 (cell 15 _ rfl) (A6 (cell 16 _ rfl) (A6 (cell 17 _ rfl) (BU (cell 18 _ rfl)))))))
 ·exact Gj p hs.lets hN (fun i _ g cs _ hr a=>Rk hb i g _ cs _ hr a)
 ·exact Gj rc hs.crops hN (fun i _ g cs _ hr a=>Pn hb i g _ cs _ hr a)
 ·exact Gj l hs.reaches hN (fun i _ g cs _ hr a=>NH hb i g _ cs _ hr a)
 ·exact Gj m hs.farms hN (fun i _ g cs _ hr a=>Po hb i g _ cs _ hr a)
 ·exact Gj ri hs.rights hN (fun i _ g cs _ hr a=>NI hb i g _ cs _ hr a)
 ·exact Gj t hs.duties hN (fun i _ g cs _ hr a=>Ps hb i g _ cs _ hr a)
theorem CE{α:Type}{f:Nat->α->α}(h:∀i a,f i a=a)(l:List α):l.mapIdx f=l:=by
 refine xP (by simp) fun i h1 h2=>?_
 rw[List.getElem_mapIdx];exact h _ _
theorem Vk(x:Ax):x.mp (fun _ e=>e) (fun _ r=>r)=x:=by
 unfold Ax.mp
 have h1:=CE (f:=Ga.mp fun _ e=>e) (fun _ _=>rfl) x.lets
 have h2:=CE (f:=DD.mp fun _ e=>e) (fun _ _=>rfl) x.crops
 have h3:=CE (f:=AD.mp (fun _ e=>e) fun _ r=>r) (fun _ _=>rfl) x.reaches
 have g:=CE (f:=CV.mp (fun _ e=>e) fun _ r=>r) (fun _ _=>rfl) x.farms
 have b:=CE (f:=BA.mp (fun _ e=>e) fun _ r=>r) (fun _ d=>by
  unfold BA.mp
  rw[CE (f:=Cm.mp (fun _ e=>e) fun _ r=>r) (fun _ _=>rfl) d.turns]) x.rots
 have a:=CE (f:=B6.mp (fun _ e=>e) fun _ r=>r) (fun _ _=>rfl) x.rights
 have c:=CE (f:=D6.mp (fun _ e=>e) fun _ r=>r) (fun _ _=>rfl) x.duties
 rw[h1,h2,h3,g,b,a,c]
section
variable{N:NP}{E E':Int->Ex->Nat->Nat->Prop}{R R':Int->Rf->Nat->Nat->Prop}{w w':World}{L:Bq}{x:Ax}
theorem C8.imp(h:C8 N E R w L x)(a:∀b t,(N b∨b=L.s)->Ty w b t->Ty w' b t)(c:∀b o,(N b∨b=L.s)->Nz w b o->w'.cell? ⟨b,o,none⟩=w.cell? ⟨b,o,none⟩)
 (d:∀lt e b o,(N b∨b=L.s)->Gh w b o->E lt e b o->E' lt e b o)(hr:∀to r b o,(N b∨b=L.s)->Pe w b o->R to r b o->R' to r b o):C8 N E' R' w' L x:=by
 have:=h.map (f:=fun _ e=>e) (g:=fun _ r=>r) a c d hr
 rwa [Vk] at this
theorem Ab{w w':World}{b o:Nat}(h:w'.heap[b]?=w.heap[b]?):w'.cell? ⟨b,o,none⟩=w.cell? ⟨b,o,none⟩:=by
 unfold World.cell?;rw[h]
theorem Gh.lt{b o:Nat}(h:Gh w b o):b < w.heap.size:=by obtain ⟨t,h,_⟩:=h;exact h.lt
theorem Pe.lt{b o:Nat}(h:Pe w b o):b < w.heap.size:=by obtain ⟨t,h,_⟩:=h;exact h.lt
theorem Nz.lt{b o:Nat}(h:Nz w b o):b < w.heap.size:=by obtain ⟨t,h,_⟩:=h;exact h.lt
theorem C8.up{M:NP}(h:C8 N (EV M w) (RV w) w L x)(hM:∀b,M b->b < w.heap.size)(hb:Below w.heap.size w w'):C8 N (EV M w') (RV w') w' L x:=by
 refine h.imp (fun b t _ f=>f.same (hb.block b f.lt)) (fun b o _ a=>Ab (hb.block b a.lt)) (fun lt e b o _ a g=>?_) (fun to r b o _ a hr=>?_)
 ·obtain ⟨c,h1,h2⟩:=g
  exact ⟨c,A0 h1 (hb.block b a.lt),h2.same (fun _ h=>h) (fun b d=>hb.block b (hM b d))⟩
 ·exact ⟨hr.1,(Ab (hb.block b a.lt)).trans hr.2.1,(Ab (hb.block b a.lt)).trans hr.2.2⟩
end
theorem Az.split{α β:Type}{R:α->β->Prop}:∀ {l:List α} {m:List β} {l':List α} {a:List β},l.length=m.length->Az R (l++l') (m++a)->Az R l m∧Az R l' a
 |[],[],_,_,_,h=>⟨trivial,h⟩
 |_::_,_::_,_,_,hl,h=>by
  obtain ⟨h1,h2⟩:=Az.split (by simpa using hl) h.2
  exact ⟨⟨h.1,h1⟩,h2⟩
 |[],_::_,_,_,hl,_=>by simp at hl
 |_::_,[],_,_,hl,_=>by simp at hl
theorem I0{α β γ:Type}{R:α->β->Prop}(f:Nat->List α)(g:Nat->γ->List β):∀(l:List γ) (k:Nat),(∀i (h:i < l.length),(f (k+i)).length=(g (k+i) l[i]).length)->
  Az R ((List.range' k l.length).flatMap f) ((l.zipIdx k).flatMap fun p=>g p.2 p.1)->∀i (h:i < l.length),Az R (f (k+i)) (g (k+i) l[i])
 |[],_,_,_,i,h=>by simp at h
 |x::r,k,hl,hA,i,h=>by
  rw[yv,List.range'_succ,zc,xM,zc] at hA
  obtain ⟨h1,h2⟩:=Az.split (hl 0 (by simp)) hA
  cases i with
  |zero=>exact h1
  |succ i=>
   have:=I0 f g r (k+1) (fun i hi=>by have:=hl (i+1) (by simpa using hi);rw[show k+1+i=k+(i+1) by omega];simpa using this) h2 i (by simpa using h)
   rw[show k+1+i=k+(i+1) by omega] at this
   simpa using this
theorem BL{α β γ:Type}{R:α->β->Prop}(f:Nat->List α)(g:Nat->γ->List β)(l:List γ)(n:Nat)(c:n=l.length)(b:∀i (h:i < l.length),(f i).length=(g i l[i]).length)(a:Az R ((List.range n).flatMap f) (l.zipIdx.flatMap fun p=>g p.2 p.1)):∀i (h:i < l.length),Az R (f i) (g i l[i]):=by
 subst c
 rw[List.range_eq_range'] at a
 intro i h
 have:=I0 f g l 0 (fun i hi=>by rw[yw];exact b i hi) a i h
 rwa [yw] at this
theorem F3{α β γ:Type}(f:Nat->List α)(g:Nat->γ->List β)(l:List γ)(n:Nat)(d:n=l.length)(c:∀i (h:i < l.length),(f i).length=(g i l[i]).length):((List.range n).flatMap f).length=(l.zipIdx.flatMap fun p=>g p.2 p.1).length:=
 Az.length (R:=fun _ _=>True) (AY f g l n d (fun i h=>by
  have:∀(a:List α) (b:List β),a.length=b.length->Az (fun _ _=>True) a b:=by
   intro a
   induction a with
   |nil=>intro b hb;cases b with
    |nil=>trivial
    |cons=>simp at hb
   |cons x r ih=>intro b hb;cases b with
    |nil=>simp at hb
    |cons y s=>exact ⟨trivial,ih s (by simpa using hb)⟩
  exact this _ _ (c i h)))
def SD(E:Int->Ex->Nat->Nat->Prop)(a:Array Value)(e:Lp):Prop:=∃b o,a=#[.pointer (some ⟨b,o,none⟩),.int .i64 e.2]∧E e.2 e.1 b o
section
variable{N:NP}{E E':Int->Ex->Nat->Nat->Prop}{R:Int->Rf->Nat->Nat->Prop}{w:World}
theorem BG{h:As}{g sz i c:Nat}{e:Ex}{lt:Int}(d:h.a=some ⟨g,0,none⟩)(f:SD E' #[h.ptr sz i c,.int .i64 lt] (e,lt)):E' lt e g (i*sz+c):=by
 obtain ⟨b,o,h1,h2⟩:=f
 unfold As.ptr at h1
 rw[AP d,yw] at h1
 simp only[qo,xG,xQ,z8,qt,and_true] at h1
 obtain ⟨rfl,rfl⟩:=h1
 exact h2
theorem Ks{s a b o:Nat}{lt:Int}{e:Ex}(h1:(#[.pointer (some ⟨s,a,none⟩),.int .i64 lt]:Array Value)=#[.pointer (some ⟨b,o,none⟩),.int .i64 lt])(h2:E' lt e b o):E' lt e s a:=by
 simp only[qo,xG,xQ,z8,qt,and_true] at h1
 obtain ⟨rfl,rfl⟩:=h1
 exact h2
theorem C8.told{L:Bq}{x:Ax}(h:C8 N E R w L x)(c:Az (SD E') (BH L) (Ay x)):C8 N E' R w L x:=by
 unfold BH Ay at c
 obtain ⟨J,c⟩:=Az.split (l:=Al (Af L.s)) (m:=[(x.season,(0:Int)),(x.cap,0),(x.start,0)]) rfl c
 obtain ⟨H,c⟩:=Az.split (F3 _ (fun i (d:Ga)=> [(d.value,1+(i:Int))]) x.lets _ h.lets.1 (fun _ _=>rfl)) c
 obtain ⟨A,c⟩:=Az.split (F3 _ (fun i (d:DD)=> [(d.need,(0:Int))]) x.crops _ h.crops.1 (fun _ _=>rfl)) c
 obtain ⟨z,c⟩:=Az.split (F3 _ (fun i (d:AD)=> [(d.delay,(0:Int)),(d.cap,0),(d.bank,0),(d.siphon,0),(d.evap0,0),(d.evap1,0),(d.seep0,0),(d.seep1,0)]) x.reaches _ h.reaches.1 (fun _ _=>rfl)) c
 obtain ⟨T,c⟩:=Az.split (F3 _ (fun i (d:CV)=> [(d.area,(0:Int))]) x.farms _ h.farms.1 (fun _ _=>rfl)) c
 have t:∀i (hi:i < x.rots.length),(Al (E7 L.rots i)++BB (A2 L i) (A2 L i).n).length=([(x.rots[i].flow,(0:Int)),(x.rots[i].frm,0),(x.rots[i].to,0)]++Ec x.rots[i].turns).length:=fun i hi=>by
  obtain ⟨g,g1,a,ty,_,_,_,_,_,_,_,o⟩:=h.rots.2.2 i hi
  rw[yn,yn]
  congr 1
  exact F3 _ (fun k (d:Cm)=> [(d.len,(0:Int))]) x.rots[i].turns _ o.1 (fun _ _=>rfl)
 obtain ⟨S,c⟩:=Az.split (F3 _ (fun i (d:BA)=> [(d.flow,(0:Int)),(d.frm,0),(d.to,0)]++Ec d.turns) x.rots _ h.rots.1 t) c
 obtain ⟨M,K⟩:=Az.split (F3 _ (fun i (d:B6)=> [(d.flow,(0:Int)),(d.frm,0),(d.to,0),(d.every,0),(d.len,0)]) x.rights _ h.rights.1 (fun _ _=>rfl)) c
 have B1:=BL _ (fun i (d:Ga)=> [(d.value,1+(i:Int))]) x.lets _ h.lets.1 (fun _ _=>rfl) H
 have B2:=BL _ (fun i (d:DD)=> [(d.need,(0:Int))]) x.crops _ h.crops.1 (fun _ _=>rfl) A
 have B3:=BL _ (fun i (d:AD)=> [(d.delay,(0:Int)),(d.cap,0),(d.bank,0),(d.siphon,0),(d.evap0,0),(d.evap1,0),(d.seep0,0),(d.seep1,0)]) x.reaches _ h.reaches.1 (fun _ _=>rfl) z
 have B4:=BL _ (fun i (d:CV)=> [(d.area,(0:Int))]) x.farms _ h.farms.1 (fun _ _=>rfl) T
 have B5:=BL _ (fun i (d:BA)=> [(d.flow,(0:Int)),(d.frm,0),(d.to,0)]++Ec d.turns) x.rots _ h.rots.1 t S
 have Q:=BL _ (fun i (d:B6)=> [(d.flow,(0:Int)),(d.frm,0),(d.to,0),(d.every,0),(d.len,0)]) x.rights _ h.rights.1 (fun _ _=>rfl) M
 have F:=BL _ (fun i (d:D6)=> [(d.due,(0:Int))]) x.duties _ h.duties.1 (fun _ _=>rfl) K
 obtain ⟨⟨W,X,B,V⟩,⟨b1,o1,t1,I⟩,⟨b2,o2,t2,D⟩,_⟩:=J
 refine ⟨h.ty,h.name,Ks B V,Ks t1 I,Ks t2 D,h.hlets,h.hcrops,h.hreaches,h.hfarms,h.hrots,h.hrights,h.hduties,⟨h.lets.1,h.lets.2.1,fun i hi=>?_⟩,⟨h.crops.1,h.crops.2.1,fun i hi=>?_⟩,⟨h.reaches.1,h.reaches.2.1,fun i hi=>?_⟩,⟨h.farms.1,h.farms.2.1,fun i hi=>?_⟩,⟨h.rots.1,h.rots.2.1,fun i hi=>?_⟩,⟨h.rights.1,h.rights.2.1,fun i hi=>?_⟩,⟨h.duties.1,h.duties.2.1,fun i hi=>?_⟩⟩
 ·obtain ⟨g,g1,a,ty,b,_⟩:=h.lets.2.2 i hi
  exact ⟨g,g1,a,ty,b,BG g1 (B1 i hi).1⟩
 ·obtain ⟨g,g1,a,ty,b,_⟩:=h.crops.2.2 i hi
  exact ⟨g,g1,a,ty,b,BG g1 (B2 i hi).1⟩
 ·obtain ⟨g,g1,a,ty,b,e,_⟩:=h.reaches.2.2 i hi
  obtain ⟨j,r,p,v,y,P,U,O,_⟩:=B3 i hi
  exact ⟨g,g1,a,ty,b,e,BG g1 j,BG g1 r,BG g1 p,BG g1 v,BG g1 y,BG g1 P,BG g1 U,BG g1 O⟩
 ·obtain ⟨g,g1,a,ty,b,e,f,_,q⟩:=h.farms.2.2 i hi
  exact ⟨g,g1,a,ty,b,e,f,BG g1 (B4 i hi).1,q⟩
 ·obtain ⟨g,g1,a,ty,b,e,f,_,_,_,q,o⟩:=h.rots.2.2 i hi
  obtain ⟨j,u⟩:=Az.split (l:=Al (E7 L.rots i)) (m:=[(x.rots[i].flow,(0:Int)),(x.rots[i].frm,0),(x.rots[i].to,0)]) rfl (B5 i hi)
  obtain ⟨j,r,p,_⟩:=j
  have C:=BL _ (fun k (d:Cm)=> [(d.len,(0:Int))]) x.rots[i].turns _ o.1 (fun _ _=>rfl) u
  refine ⟨g,g1,a,ty,b,e,f,BG g1 j,BG g1 r,BG g1 p,q,o.1,o.2.1,fun k u=>?_⟩
  obtain ⟨g,g1,a,ty,b,_⟩:=o.2.2 k u
  exact ⟨g,g1,a,ty,b,BG g1 (C k u).1⟩
 ·obtain ⟨g,g1,a,ty,b,e,f,q,G,_⟩:=h.rights.2.2 i hi
  obtain ⟨j,r,p,v,y,_⟩:=Q i hi
  exact ⟨g,g1,a,ty,b,e,f,q,G,BG g1 j,BG g1 r,BG g1 p,BG g1 v,BG g1 y⟩
 ·obtain ⟨g,g1,a,ty,b,e,f,_⟩:=h.duties.2.2 i hi
  exact ⟨g,g1,a,ty,b,e,f,BG g1 (F i hi).1⟩
end
def FV(L:Bq)(k b o:Nat)(lt:Int):Prop:=(BH L)[k]?=some #[.pointer (some ⟨b,o,none⟩),.int .i64 lt]
structure NJ (N:Nat->Prop) (W4:World) (L:Bq) (x:Ax):Prop where
 epos:∀j b o lt,FV L j b o lt->Gh W4 b o
 old:∀b,N b->b < W4.heap.size∧∀j o lt,¬ FV L j b o lt
 val:∀j b o lt,FV L j b o lt->∀h:j < (Ay x).length,∃c,W4.rangeAt b o c∧AH N W4 (Ay x)[j].1 c
structure NK (W4:World) (L:Bq) (x:Ax) (k:Nat) (O:Nat->Prop) (W:World):Prop where
 os:W.os=W4.os
 tape:W.tape=W4.tape
 output:W.output=W4.output
 size:W4.heap.size<=W.heap.size
 own:∀b,O b->W4.heap.size<=b
 cells:∀b q,b < W4.heap.size->(∀j o lt,j < k->FV L j b o lt->q≠o+5)->W.cell? ⟨b,q,none⟩=W4.cell? ⟨b,q,none⟩
 ty:∀b t,Ty W4 b t->Ty W b t
 old:∀b,b < W4.heap.size->(∀j o lt,j < k->¬ FV L j b o lt)->W.heap[b]?=W4.heap[b]?
 done:∃M:Nat->Prop,(∀b,M b->¬ O b∧W4.heap.size<=b∧b < W.heap.size)∧∀j b o lt,j < k->FV L j b o lt->∀h:j < (Ay x).length,b < W4.heap.size∧∃a c,W.cell? ⟨b,o+5,none⟩=some (.slice a ((Ay x)[j].1).args.length c)∧DA W M a 0 ((Ay x)[j].1).args
section
variable{N:NP}{W4 W w':World}{L:Bq}{x:Ax}{k b o:Nat}{lt:Int}{O:NP}
theorem NK.start(W4:World)(L:Bq)(x:Ax):NK W4 L x 0 (fun _=>False) W4:=
 ⟨rfl,rfl,rfl,yf _,fun _ h=>h.elim,fun _ _ _ _=>rfl,fun _ _ h=>h,fun _ _ _=>rfl,fun _=>False,fun _ h=>h.elim,fun j _ _ _ a=>by omega⟩
theorem NK.stays:Ca (NK W4 L x):=by
 intro k O W C W' h n s p v m l
 have d:∀b,b < W4.heap.size->W'.heap[b]?=W.heap[b]?:=fun b hb=>m b (fun e=>by have:=h.own b e;omega) (yu hb h.size)
 obtain ⟨M,m1,A⟩:=h.done
 refine ⟨s.trans h.os,p.trans h.tape,v.trans h.output,yt h.size n,fun b hb=>?_,fun b q hb g=>(Ab (d b hb)).trans (h.cells b q hb g),fun b t hb=>(h.ty b t hb).same (d b hb.lt),fun b hb g=>(d b hb).trans (h.old b hb g),M,fun b hb=>?_,fun j b o lt u B r=>?_⟩
 ·rcases l b hb with h1|h1
  ·exact h.own b h1
  ·have:=h.size;omega
 ·obtain ⟨n1,n2,D⟩:=m1 b hb
  refine ⟨fun e=>?_,n2,by omega⟩
  rcases l b e with h1|h1
  ·exact n1 h1
  ·omega
 ·obtain ⟨f,a,c,z,w⟩:=A j b o lt u B r
  exact ⟨f,a,c,(Ab (d b f)).trans z,w.same (fun _ h _=>h) (fun c y i=>m c (m1 c y).1 i)⟩
theorem NK.read(g:NJ N W4 L x)(h:NK W4 L x k O W)(v:FV L k b o lt)(P:k < (Ay x).length):
  ∃M:NP,(∀c,M c->N c∨(W4.heap.size<=c∧c < W.heap.size))∧∃cs,W.rangeAt b o cs∧AH M W (Ay x)[k].1 cs:=by
 obtain ⟨c,c1,c2⟩:=g.val k b o lt v P
 obtain ⟨a,cap,rfl,T,K,X⟩:=c2.cells
 obtain ⟨I,r1,r2,F,E,R⟩:=Bn c1
 have t:=(g.epos k b o lt v).lt
 have hN:∀c,N c->W.heap[c]?=W4.heap[c]?:=fun c s=>h.old c (g.old c s).1 (fun j o lt _=>(g.old c s).2 j o lt)
 have d:∀i,i < 5->W.cell? (aV b (o+i))=W4.cell? (aV b (o+i)):=fun i hi=>h.cells b _ t (fun j w e _ f l=>by
  have:=(g.epos k b o lt v).uniq (g.epos j b w e f) (j:=i) (j':=5) (by omega) (by omega) l
  omega)
 obtain ⟨M,m1,S⟩:=h.done
 by_cases r:∃j e,j < k∧FV L j b o e
 ·obtain ⟨j,e,A,f⟩:=r
  have m:j < (Ay x).length:=by omega
  obtain ⟨_,V,D,H,G⟩:=S j b o e A f m
  obtain ⟨U,B,p⟩:=g.val j b o e f m
  have z:U=[iV (Ay x)[k].1.op,iV (Ay x)[k].1.n,iV (Ay x)[k].1.u,.string (Ay x)[k].1.rn,iV (Ay x)[k].1.ri,.slice a (Ay x)[k].1.args.length cap]:=by
   refine xP (by rw[p.len];rfl) fun q J y=>?_
   have h1:=B q _ (yk J)
   have h2:=c1 q _ (yk y)
   rw[h1] at h2
   exact yi h2
  subst z
  have l:(Ay x)[j].1=(Ay x)[k].1:=Qm _ p c2
  rw[l] at H G
  refine ⟨fun c=>N c∨M c,fun c g=>g.imp id (fun C=>(m1 c C).2),_,A6 ((d 0 (by omega)).trans I) (A6 ((d 1 (by omega)).trans r1) (A6 ((d 2 (by omega)).trans r2) (A6 ((d 3 (by omega)).trans F) (A6 ((d 4 (by omega)).trans E) (BU H))))),AH.mk' T K (G.rowV (fun c C _=>.inr C))⟩
 ·have Q:W.cell? (aV b (o+5))=W4.cell? (aV b (o+5)):=h.cells b _ t (fun j w e A f l=>by
   have:=(g.epos k b o lt v).uniq (g.epos j b w e f) (j:=5) (j':=5) (by omega) (by omega) l
   obtain ⟨_,rfl⟩:=this
   exact r ⟨j,e,A,f⟩)
  exact ⟨N,fun c g=>.inl g,_,A6 ((d 0 (by omega)).trans I) (A6 ((d 1 (by omega)).trans r1) (A6 ((d 2 (by omega)).trans r2) (A6 ((d 3 (by omega)).trans F) (A6 ((d 4 (by omega)).trans E) (BU (Q.trans R)))))),c2.same (fun _ h=>h) hN⟩
theorem NK.next(F:NJ N W4 L x)(h:NK W4 L x k O W)(s:FV L k b o lt)(Y:k < (Ay x).length)(C:∀b,O b->b < W.heap.size)(f:VN W b o (Ay x)[k].1.args w'):NK W4 L x (k+1) O w'∧AO O W w':=by
 obtain ⟨l,R,s3,a,cap,Z,s5⟩:=f
 have Q:=(F.epos k b o lt s).lt
 have V:=h.size
 have z:∀c,W4.heap.size<=c->c < W.heap.size->w'.heap[c]?=W.heap[c]?:=fun c h1 h2=>l.block c h2 (fun e=>by cases e;omega)
 obtain ⟨M,m1,m2⟩:=h.done
 refine ⟨⟨l.os.trans h.os,l.tape.trans h.tape,l.output.trans h.output,yt V l.size,h.own,fun c q f n=>?_,fun c t G=>?_,fun c f n=>?_,fun c=>M c∨(W.heap.size<=c∧c < w'.heap.size),fun c m=>?_,fun j r w p J d A=>?_⟩,l.size,fun c E=>z c (h.own c E) (C c E)⟩
 ·by_cases i:c=b
  ·subst i
   rw[R q (n k o lt (by omega) s),h.cells c q f (fun j o lt J=>n j o lt (by omega))]
  ·rw[Iu l (by omega) i,h.cells c q f (fun j o lt J=>n j o lt (by omega))]
 ·by_cases i:c=b
  ·subst i;exact s3 t (h.ty c t G)
  ·exact (h.ty c t G).same (l.block c (h.ty c t G).lt (fun e=>i (by cases e;rfl)))
 ·have i:c≠b:=fun e=>n k o lt (by omega) (e▸s)
  rw[l.block c (by omega) (fun e=>i (by cases e;rfl)),h.old c f (fun j o lt J=>n j o lt (by omega))]
 ·rcases m with m|m
  ·obtain ⟨n1,n2,n3⟩:=m1 c m
   exact ⟨n1,n2,by have:=l.size;omega⟩
  ·exact ⟨fun E=>by have:=C c E;omega,by omega,m.2⟩
 ·have D:DA w' (fun c=>M c∨(W.heap.size<=c∧c < w'.heap.size)) a 0 (Ay x)[k].1.args:=s5.same (fun c h1 h2=>.inr ⟨h1,h2⟩) (fun _ _ _=>rfl)
  by_cases g:r=b∧w=o
  ·obtain ⟨rfl,rfl⟩:=g
   obtain ⟨c,c1,c2⟩:=F.val k r w lt s Y
   obtain ⟨c',P,B⟩:=F.val j r w p d A
   have I:c'=c:=by
    refine xP (by rw[B.len,c2.len]) fun q n H=>?_
    have h1:=P q _ (yk n)
    have h2:=c1 q _ (yk H)
    rw[h1] at h2
    exact yi h2
   subst I
   have X:(Ay x)[j].1=(Ay x)[k].1:=Qm _ B c2
   rw[X]
   exact ⟨Q,a,cap,Z,D⟩
  ·have K:j < k:=by
    rcases zQ j k with S|S
    ·exact S
    ·exfalso
     obtain rfl:j=k:=by omega
     unfold FV at s d
     rw[s] at d
     simp only[z8,qo,xG,xQ,qt,and_true] at d
     exact g ⟨d.1.1.symm,d.1.2.symm⟩
   obtain ⟨y,U,u,T,d2⟩:=m2 j r w p K d A
   refine ⟨y,U,u,?_,d2.same (fun c m _=>.inl m) (fun c m f=>z c (m1 c m).2.1 f)⟩
   by_cases v:r=b
   ·subst v
    rw[R _ (fun e=>g ⟨rfl,by omega⟩)];exact T
   ·rw[Iu l (by have:=(F.epos j r w p d).lt;omega) v];exact T
end
section
variable{N:NP}{E:Int->Ex->Nat->Nat->Prop}{R:Int->Rf->Nat->Nat->Prop}{w W:World}{L:Bq}{x:Ax}
theorem C8.ok(h:C8 N E R w L x):L.Ok:=by
 refine ⟨h.lets.ok,h.crops.ok,h.reaches.ok,h.farms.ok,h.rots.ok,h.rights.ok,h.duties.ok,fun i hi=>?_⟩
 obtain ⟨_,_,_,_,_,_,_,_,_,_,_,a⟩:=h.rots.2.2 i (by rw[<-h.rots.1];exact hi)
 exact a.ok
theorem C8.heads(h:C8 N E R w L x){Bs:Nat}(d:∀b o,Nz w b o->W.cell? ⟨b,o,none⟩=w.cell? ⟨b,o,none⟩)(c:W.cell? ⟨Bs,0,none⟩=some (.pointer (some ⟨L.s,0,none⟩))):Ip L Bs W:=by
 have a:∀o,Fp 35 o=0->W.cell? (aV L.s o)=w.cell? (aV L.s o):=fun o e=>d _ _ ⟨_,h.ty,e⟩
 refine ⟨c,(a _ rfl).trans h.hlets,(a _ rfl).trans h.hcrops,(a _ rfl).trans h.hreaches,(a _ rfl).trans h.hfarms,(a _ rfl).trans h.hrots,(a _ rfl).trans h.hrights,(a _ rfl).trans h.hduties,fun i hi=>?_⟩
 obtain ⟨g,g1,_,ty,_,_,_,_,_,_,f,_⟩:=h.rots.2.2 i (by rw[<-h.rots.1];exact hi)
 rw[AP g1,yw]
 exact (d _ _ (Du ty Fq i 22 rfl)).trans f
theorem MD{cs:LV}(h:BP N w L cs x):∀v∈cs,v.oneCell'=true:=by
 obtain ⟨c0,c1,c2,rfl,c,g1,b⟩:=h.cells
 refine Cq rfl (AN (BC c) (AN (BC g1) (AN (BC b) ?_)))
 intro v a
 simp at a
 rcases a with rfl|rfl|rfl|rfl|rfl|rfl|rfl<;>rfl
theorem Hf(h:Az (Va N E w) (BH L) (Ay x)){j b o:Nat}{lt:Int}(d:FV L j b o lt):N b∧Gh w b o∧∀i:j < (Ay x).length,E (Ay x)[j].2 (Ay x)[j].1 b o:=by
 unfold FV at d
 obtain ⟨c,e⟩:=yx.1 d
 have a:j < (Ay x).length:=by rw[<-h.length];exact c
 obtain ⟨g,k,h1,h2,h3,f⟩:=h.get j c a
 rw[e] at h1
 simp only[qo,xG,xQ,z8,qt,and_true] at h1
 obtain ⟨⟨rfl,rfl⟩,_⟩:=h1
 exact ⟨h2,h3,fun _=>f⟩
theorem SE(h:Az (Va N E w) (BH L) (Ay x)){j:Nat}(a:j < (BH L).length):∃b o lt,FV L j b o lt:=by
 obtain ⟨b,o,h1,_⟩:=h.get j a (by rw[<-h.length];exact a)
 exact ⟨b,o,_,by unfold FV;rw[yk a,h1]⟩
theorem TY{W4:World}{O:NP}{B:NP}{y:NP}(h:Az (Va N E W4) (BH L) (Ay x))(p:NJ y W4 L x)(v:NK W4 L x (BH L).length O W)(F:∀b,W4.heap.size<=b->¬ O b->B b):
  Az (SD fun (_:Int) e b o=>∃c,W.rangeAt b o c∧Hs W B e c) (BH L) (Ay x):=by
 have k:∀(l:List (Array Value)) (m:List Lp),l.length=m.length->(∀i (h1:i < l.length) (h2:i < m.length),SD (fun (_:Int) e b o=>∃c,W.rangeAt b o c∧Hs W B e c) l[i] m[i])->Az (SD fun (_:Int) e b o=>∃c,W.rangeAt b o c∧Hs W B e c) l m:=by
  intro l
  induction l with
  |nil=>intro m f _;cases m with
   |nil=>trivial
   |cons=>simp at f
  |cons a l ih=>intro m f w;cases m with
   |nil=>simp at f
   |cons e m=>exact ⟨w 0 (by simp) (by simp),ih m (by simpa using f) (fun i h1 h2=>w (i+1) (by simpa using h1) (by simpa using h2))⟩
 refine k _ _ h.length fun i h1 h2=>?_
 obtain ⟨b,o,t,Q,S,T⟩:=h.get i h1 h2
 have s:FV L i b o (Ay x)[i].2:=by unfold FV;rw[yk h1,t]
 obtain ⟨M,m1,J⟩:=v.done
 obtain ⟨r,a,cap,I,H⟩:=J i b o _ h1 s h2
 obtain ⟨c,c1,c2⟩:=p.val i b o _ s h2
 obtain ⟨U,u,rfl,K,A,X⟩:=c2.cells
 obtain ⟨P,r1,r2,G,D,V⟩:=Bn c1
 have d:∀q,q < 5->W.cell? (aV b (o+q))=W4.cell? (aV b (o+q)):=fun q R=>v.cells b _ r (fun j C g _ n z=>by
  have:=(p.epos i b o _ s).uniq (p.epos j b C g n) (j:=q) (j':=5) (by omega) (by omega) z
  omega)
 exact ⟨b,o,t,_,A6 ((d 0 (by omega)).trans P) (A6 ((d 1 (by omega)).trans r1) (A6 ((d 2 (by omega)).trans r2) (A6 ((d 3 (by omega)).trans G) (A6 ((d 4 (by omega)).trans D) (BU I))))),Hs.mk' K A (H.same (fun b hb _=>F b (m1 b hb).2.1 (m1 b hb).1) (fun _ _ _=>rfl))⟩
theorem Hg{c:NP}{W4:World}{k:Nat}{O:NP}(e:NJ c W4 L x)(f:NK W4 L x k O W){b q:Nat}{t:Nat}(ty:Ty W4 b t)(a:Fp t q≠1):W.cell? ⟨b,q,none⟩=W4.cell? ⟨b,q,none⟩:=
 f.cells b q ty.lt (fun j o lt _ g d=>by
  obtain ⟨h,h1,h2⟩:=e.epos j b o lt g
  obtain rfl:=ty.inj h1
  exact a (by rw[d];exact (h2 5 (by omega)).1))
end
end Go.Proofs.YtjofgpfocadomaaGreatDoor
namespace Go.Proofs.YtjofgpfocadomaaGreatDoor
open Go.RowKit
attribute [local go_sem] Oper.semAt_some
def ET(B:NP)(w:World)(_:Int)(e:Ex)(b o:Nat):Prop:=∃c,w.rangeAt b o c∧Hs w B e c
theorem MG{fn:Func}{t:Tmp}{ty:TypeId}{tmps:Array Value}{P:Program}{w:World}{p:Addr}{v:Value}(h:fn.results=#[.cell t ty])(a:tmps.getD t undef=.pointer (some p))(b:(loadVar ty p).run P w=.ok v w):(results fn tmps).run P w=.ok v w:=by
 rw[yB] at a
 simp[results,h,a,asAddr,b]
def M7(w:World)(x:Ax)(e:Ending)(w':World):Prop:=
 ∃(L:Bq) (cs:LV),e=.returned (.agg cs.toArray)∧cs.length=26∧(∀v∈cs,v.oneCell'=true)∧Below w.heap.size w w'∧L.s=w.heap.size∧w'.rangeAt L.s 0 cs∧C8 (fun g=>w.heap.size<=g∧g≠w.heap.size+1) (ET (fun g=>w.heap.size+2<=g) w') (RV w') w' L x
theorem Ku(W:World)(r:Option Nat):W.grownBy W r:=⟨rfl,rfl,rfl,yf _,fun _ _ _=>rfl⟩
theorem Kv{W V:World}{r:Option Nat}(h:W.grownBy V r):W.grownBy V.drew r:=⟨h.os,h.tape,h.output,h.size,h.block⟩
theorem AR{W V U:World}{r:Option Nat}(h:W.grownBy V r)(k:V.grownBy U r):W.grownBy U r:=
 ⟨k.os.trans h.os,k.tape.trans h.tape,k.output.trans h.output,yt h.size k.size,fun b hb a=>(k.block b (yu hb h.size) a).trans (h.block b hb a)⟩
theorem BM{V U:World}{r:Option Nat}(h:Below V.heap.size V U):V.grownBy U r:=⟨h.os,h.tape,h.output,h.size,fun b hb _=>h.block b hb⟩
def M8{α:Type}:List α->Option Addr->Option Nat
 |[],_=>none
 |_::_,a=>a.map (·.block)
theorem F4{α:Type}{l:List α}{i g:Nat}(h:i < l.length):M8 l (some ⟨g,0,none⟩)=some g:=by
 cases l with
 |nil=>simp at h
 |cons x r=>rfl
structure Vl (U:World) (a:Option Addr) (N:Nat->Prop) (w:World) (l:List BA) (hs:List As) (wr:World):Prop where
 grown:U.grownBy wr (M8 l a)
 len:hs.length<=l.length
 ty:∀g,a=some ⟨g,0,none⟩->∀t,Ty U g t->Ty wr g t
 cells:∀g,a=some ⟨g,0,none⟩->∀q,(∀j,j < hs.length->q≠j*23+22)->wr.cell? ⟨g,q,none⟩=U.cell? ⟨g,q,none⟩
 done:∀j (_:j < hs.length) (_:j < l.length),Gy U.heap.size wr 158 8 (Fo N w) hs[j] l[j].turns∧∀g,a=some ⟨g,0,none⟩->wr.cell? ⟨g,j*23+22,none⟩=some hs[j].v
theorem M9{α:Type}{l:List α}{a:Option Addr}{b:Nat}(h:some b=M8 l a):0 < l.length:=by
 cases l with
 |nil=>cases h
 |cons x r=>simp
theorem Vl.next{U:World}{a:Option Addr}{N:NP}{w:World}{l:List BA}{hs:List As}{wr V y:World}{g:Nat}{p:As}{u:Value}(o:Vl U a N w l hs wr)(hi:hs.length < l.length)(h:a=some ⟨g,0,none⟩)(M:g < U.heap.size)(hb:Below wr.heap.size wr V)
 (I:V.cell? ⟨g,hs.length*23+22,none⟩=some u)(hr:Gy wr.heap.size V 158 8 (Fo N w) p l[hs.length].turns)(L:y=V.setCell ⟨g,hs.length*23+22,none⟩ p.v):Vl U a N w l (hs++[p]) y:=by
 obtain ⟨k,s,C,A⟩:=Ac p.v I
 rw[<-L] at k s C A
 have E:=o.grown.size
 have K:=hb.size
 have n:V.heap[g]?=wr.heap[g]?:=hb.block g (by omega)
 have d:∀q,V.cell? (aV g q)=wr.cell? (aV g q):=fun q=>by unfold World.cell?;rw[n]
 have i:M8 l a=some g:=by rw[h];exact F4 hi
 refine ⟨?_,by simp;omega,fun r c t F=>?_,fun r c q z=>?_,fun j B G=>?_⟩
 ·rw[i]
  have h0:=o.grown
  rw[i] at h0
  exact AR (AR h0 (BM hb)) k
 ·rw[h] at c;cases c
  exact C t ((o.ty g h t F).same n)
 ·rw[h] at c;cases c
  rw[s q (z hs.length (by simp)),d,o.cells g h q (fun j B=>z j (by simp;omega))]
 ·by_cases x:j=hs.length
  ·subst x
   rw[xx (yf _)]
   simp only[Nat.sub_self,List.getElem_cons_zero]
   exact ⟨Gy.of (hr.up (fun b D f=>k.block b f (fun e=>by cases e;omega))).1 E (hr.up (fun b D f=>k.block b f (fun e=>by cases e;omega))).2,fun r c=>by rw[h] at c;cases c;exact A⟩
  ·have m:j < hs.length:=by simp at B;omega
   rw[xy m]
   obtain ⟨J,H⟩:=o.done j m G
   refine ⟨J.up (fun b D f=>(k.block b (by omega) (fun e=>by cases e;omega)).trans (hb.block b f)),fun r c=>?_⟩
   rw[h] at c;cases c
   rw[s _ (by omega),d,H g h]
theorem SH{N:NP}{w:World}{t:As}{cs:LV}{d:BA}(h:GM N w t cs d):BF N w 8 (Fo N w) t d.turns:=by
 obtain ⟨_,_,_,_,_,_,_,_,_,h⟩:=h
 exact h
theorem SI{N:NP}{w:World}{L:Bq}(cs:LV)(d:BA × Nat)(h:GM N w (A2 L d.2) cs d.1):∀v∈cs,v.oneCell'=true:=Ir h
theorem SJ{N:NP}{w W:World}{L:Bq}{l:List BA}(h:L.rots.n=l.length∧l.length<=140737488355328∧∀i (hi:i < l.length),∃b o cs,L.rots.a=some ⟨b,o,none⟩∧N b∧cs.length=23∧w.rangeAt b (o+i*23) cs∧GM N w (A2 L i) cs l[i])(hb:∀b,N b->W.heap[b]?=w.heap[b]?):
  BF N W 23 (fun cs (d:BA × Nat)=>GM N w (A2 L d.2) cs d.1) L.rots l.zipIdx:=by
 obtain ⟨h1,h2,h3⟩:=h
 refine ⟨by rw[zB];exact h1,by rw[zB];exact h2,fun i hi=>?_⟩
 rw[zB] at hi
 obtain ⟨b,o,cs,g1,c,g,f,e⟩:=h3 i hi
 refine ⟨b,o,cs,g1,c,g,A0 f (hb b c),?_⟩
 rw[qd]
 simpa using e
theorem Pu{N:NP}{w:World}{L:Bq}{cs:LV}{x:Ax}(h:BP N w L cs x)(hN:∀b,N b->b < w.heap.size)(f6:MB x):
  Calls Tryz.prog 67 #[.agg cs.toArray] w (M7 w x):=by
 obtain ⟨c0,c1,c2,rfl,g0,g1,g2⟩:=h.cells
 obtain ⟨a0,p0,rfl,e0⟩:=g0.cells
 obtain ⟨a1,p1,rfl,e1⟩:=g1.cells
 obtain ⟨a2,p2,rfl,e2⟩:=g2.cells
 have HV:=yb h
 have HN:=yb hN
 have az:=yb f6
 have gr:=yb g0;have g7:=yb g1;have g8:=yb g2
 clear h hN f6 g0 g1 g2 e0 e1 e2
 unfold As.v
 simp only[yK,yP]
 refine Bb (n:=10) Tryz.func67 rfl ?_
 simp only[Tryz.ntmps67,yM,yv,yE,Nat.reduceAdd,Nat.reduceSub,zx,zy,zM,zG,yP,yK]
 refine A9 (A4 ?_)
 go_wp2
 have fp:Below w.heap.size w ((w.alloc (.cells #[.string x.name,iV x.season.op,iV x.season.n,iV x.season.u,.string x.season.rn,iV x.season.ri,.slice a0 x.season.args.length p0,iV x.cap.op,iV x.cap.n,iV x.cap.u,.string x.cap.rn,iV x.cap.ri,.slice a1 x.cap.args.length p1,iV x.start.op,iV x.start.n,iV x.start.u,.string x.start.rn,iV x.start.ri,.slice a2 x.start.args.length p2,.slice L.lets.a L.lets.n L.lets.c,.slice L.crops.a L.crops.n L.crops.c,.slice L.reaches.a L.reaches.n L.reaches.c,.slice L.farms.a L.farms.n L.farms.c,.slice L.rots.a L.rots.n L.rots.c,.slice L.rights.a L.rights.n L.rights.c,.slice L.duties.a L.duties.n L.duties.c] 35)).alloc (.cells #[.string ⟨#[]⟩,iV 0,iV 0,iV 0,.string ⟨#[]⟩,iV 0,.slice none 0 0,iV 0,iV 0,iV 0,.string ⟨#[]⟩,iV 0,.slice none 0 0,iV 0,iV 0,iV 0,.string ⟨#[]⟩,iV 0,.slice none 0 0,.slice none 0 0,.slice none 0 0,.slice none 0 0,.slice none 0 0,.slice none 0 0,.slice none 0 0,.slice none 0 0] 35)):=((yg _ _).alloc (yf _) _).alloc (by simp) _
 have en:((w.alloc (.cells #[.string x.name,iV x.season.op,iV x.season.n,iV x.season.u,.string x.season.rn,iV x.season.ri,.slice a0 x.season.args.length p0,iV x.cap.op,iV x.cap.n,iV x.cap.u,.string x.cap.rn,iV x.cap.ri,.slice a1 x.cap.args.length p1,iV x.start.op,iV x.start.n,iV x.start.u,.string x.start.rn,iV x.start.ri,.slice a2 x.start.args.length p2,.slice L.lets.a L.lets.n L.lets.c,.slice L.crops.a L.crops.n L.crops.c,.slice L.reaches.a L.reaches.n L.reaches.c,.slice L.farms.a L.farms.n L.farms.c,.slice L.rots.a L.rots.n L.rots.c,.slice L.rights.a L.rights.n L.rights.c,.slice L.duties.a L.duties.n L.duties.c] 35)).alloc (.cells #[.string ⟨#[]⟩,iV 0,iV 0,iV 0,.string ⟨#[]⟩,iV 0,.slice none 0 0,iV 0,iV 0,iV 0,.string ⟨#[]⟩,iV 0,.slice none 0 0,iV 0,iV 0,iV 0,.string ⟨#[]⟩,iV 0,.slice none 0 0,.slice none 0 0,.slice none 0 0,.slice none 0 0,.slice none 0 0,.slice none 0 0,.slice none 0 0,.slice none 0 0] 35)).heap[w.heap.size]?=some (.cells #[.string x.name,iV x.season.op,iV x.season.n,iV x.season.u,.string x.season.rn,iV x.season.ri,.slice a0 x.season.args.length p0,iV x.cap.op,iV x.cap.n,iV x.cap.u,.string x.cap.rn,iV x.cap.ri,.slice a1 x.cap.args.length p1,iV x.start.op,iV x.start.n,iV x.start.u,.string x.start.rn,iV x.start.ri,.slice a2 x.start.args.length p2,.slice L.lets.a L.lets.n L.lets.c,.slice L.crops.a L.crops.n L.crops.c,.slice L.reaches.a L.reaches.n L.reaches.c,.slice L.farms.a L.farms.n L.farms.c,.slice L.rots.a L.rots.n L.rots.c,.slice L.rights.a L.rights.n L.rights.c,.slice L.duties.a L.duties.n L.duties.c] 35 (0,0)):=(yA _ _ _ (by simp)).trans (World.alloc_heap_new w _)
 have fu:((w.alloc (.cells #[.string x.name,iV x.season.op,iV x.season.n,iV x.season.u,.string x.season.rn,iV x.season.ri,.slice a0 x.season.args.length p0,iV x.cap.op,iV x.cap.n,iV x.cap.u,.string x.cap.rn,iV x.cap.ri,.slice a1 x.cap.args.length p1,iV x.start.op,iV x.start.n,iV x.start.u,.string x.start.rn,iV x.start.ri,.slice a2 x.start.args.length p2,.slice L.lets.a L.lets.n L.lets.c,.slice L.crops.a L.crops.n L.crops.c,.slice L.reaches.a L.reaches.n L.reaches.c,.slice L.farms.a L.farms.n L.farms.c,.slice L.rots.a L.rots.n L.rots.c,.slice L.rights.a L.rights.n L.rights.c,.slice L.duties.a L.duties.n L.duties.c] 35)).alloc (.cells #[.string ⟨#[]⟩,iV 0,iV 0,iV 0,.string ⟨#[]⟩,iV 0,.slice none 0 0,iV 0,iV 0,iV 0,.string ⟨#[]⟩,iV 0,.slice none 0 0,iV 0,iV 0,iV 0,.string ⟨#[]⟩,iV 0,.slice none 0 0,.slice none 0 0,.slice none 0 0,.slice none 0 0,.slice none 0 0,.slice none 0 0,.slice none 0 0,.slice none 0 0] 35)).heap[w.heap.size+1]?=some (.cells #[.string ⟨#[]⟩,iV 0,iV 0,iV 0,.string ⟨#[]⟩,iV 0,.slice none 0 0,iV 0,iV 0,iV 0,.string ⟨#[]⟩,iV 0,.slice none 0 0,iV 0,iV 0,iV 0,.string ⟨#[]⟩,iV 0,.slice none 0 0,.slice none 0 0,.slice none 0 0,.slice none 0 0,.slice none 0 0,.slice none 0 0,.slice none 0 0,.slice none 0 0] 35 (0,0)):=by
  have:=World.alloc_heap_new (w.alloc (.cells #[.string x.name,iV x.season.op,iV x.season.n,iV x.season.u,.string x.season.rn,iV x.season.ri,.slice a0 x.season.args.length p0,iV x.cap.op,iV x.cap.n,iV x.cap.u,.string x.cap.rn,iV x.cap.ri,.slice a1 x.cap.args.length p1,iV x.start.op,iV x.start.n,iV x.start.u,.string x.start.rn,iV x.start.ri,.slice a2 x.start.args.length p2,.slice L.lets.a L.lets.n L.lets.c,.slice L.crops.a L.crops.n L.crops.c,.slice L.reaches.a L.reaches.n L.reaches.c,.slice L.farms.a L.farms.n L.farms.c,.slice L.rots.a L.rots.n L.rots.c,.slice L.rights.a L.rights.n L.rights.c,.slice L.duties.a L.duties.n L.duties.c] 35)) (.cells #[.string ⟨#[]⟩,iV 0,iV 0,iV 0,.string ⟨#[]⟩,iV 0,.slice none 0 0,iV 0,iV 0,iV 0,.string ⟨#[]⟩,iV 0,.slice none 0 0,iV 0,iV 0,iV 0,.string ⟨#[]⟩,iV 0,.slice none 0 0,.slice none 0 0,.slice none 0 0,.slice none 0 0,.slice none 0 0,.slice none 0 0,.slice none 0 0,.slice none 0 0] 35)
  rwa [yY] at this
 have ep:((w.alloc (.cells #[.string x.name,iV x.season.op,iV x.season.n,iV x.season.u,.string x.season.rn,iV x.season.ri,.slice a0 x.season.args.length p0,iV x.cap.op,iV x.cap.n,iV x.cap.u,.string x.cap.rn,iV x.cap.ri,.slice a1 x.cap.args.length p1,iV x.start.op,iV x.start.n,iV x.start.u,.string x.start.rn,iV x.start.ri,.slice a2 x.start.args.length p2,.slice L.lets.a L.lets.n L.lets.c,.slice L.crops.a L.crops.n L.crops.c,.slice L.reaches.a L.reaches.n L.reaches.c,.slice L.farms.a L.farms.n L.farms.c,.slice L.rots.a L.rots.n L.rots.c,.slice L.rights.a L.rights.n L.rights.c,.slice L.duties.a L.duties.n L.duties.c] 35)).alloc (.cells #[.string ⟨#[]⟩,iV 0,iV 0,iV 0,.string ⟨#[]⟩,iV 0,.slice none 0 0,iV 0,iV 0,iV 0,.string ⟨#[]⟩,iV 0,.slice none 0 0,iV 0,iV 0,iV 0,.string ⟨#[]⟩,iV 0,.slice none 0 0,.slice none 0 0,.slice none 0 0,.slice none 0 0,.slice none 0 0,.slice none 0 0,.slice none 0 0,.slice none 0 0] 35)).heap.size=w.heap.size+2:=by simp
 generalize (w.alloc (.cells #[.string x.name,iV x.season.op,iV x.season.n,iV x.season.u,.string x.season.rn,iV x.season.ri,.slice a0 x.season.args.length p0,iV x.cap.op,iV x.cap.n,iV x.cap.u,.string x.cap.rn,iV x.cap.ri,.slice a1 x.cap.args.length p1,iV x.start.op,iV x.start.n,iV x.start.u,.string x.start.rn,iV x.start.ri,.slice a2 x.start.args.length p2,.slice L.lets.a L.lets.n L.lets.c,.slice L.crops.a L.crops.n L.crops.c,.slice L.reaches.a L.reaches.n L.reaches.c,.slice L.farms.a L.farms.n L.farms.c,.slice L.rots.a L.rots.n L.rots.c,.slice L.rights.a L.rights.n L.rights.c,.slice L.duties.a L.duties.n L.duties.c] 35)).alloc (.cells #[.string ⟨#[]⟩,iV 0,iV 0,iV 0,.string ⟨#[]⟩,iV 0,.slice none 0 0,iV 0,iV 0,iV 0,.string ⟨#[]⟩,iV 0,.slice none 0 0,iV 0,iV 0,iV 0,.string ⟨#[]⟩,iV 0,.slice none 0 0,.slice none 0 0,.slice none 0 0,.slice none 0 0,.slice none 0 0,.slice none 0 0,.slice none 0 0,.slice none 0 0] 35)=W1 at*
 have d4:=yb fp;have gm:=yb en;have gl:=yb fu;have aa:=yb ep
 clear fp en fu ep
 have bq:Hid (∀W,W1.grownBy W (some w.heap.size)->∀b,N b->W.heap[b]?=w.heap[b]?):=yb (fun W hW b hb=>(hW.block b (by have:=HN.o b hb;have:=aa.o;omega) (fun e=>by cases e;have:=HN.o _ hb;omega)).trans (d4.o.block b (HN.o b hb)))
 have bk:Hid (∀W,W1.grownBy W (some w.heap.size)->∀b,N b->b < W.heap.size):=yb (fun W hW b hb=>by have:=HN.o b hb;have:=aa.o;have:=hW.size;omega)
 have fa:Hid (W1.grownBy W1 (some w.heap.size)):=yb (Ku _ _)
 refine A9 (A4 ?_)
 refine wp_region_noPanic ?_
 have f1:W1.drew.heap[w.heap.size]?=some (.cells #[.string x.name,iV x.season.op,iV x.season.n,iV x.season.u,.string x.season.rn,iV x.season.ri,.slice a0 x.season.args.length p0,iV x.cap.op,iV x.cap.n,iV x.cap.u,.string x.cap.rn,iV x.cap.ri,.slice a1 x.cap.args.length p1,iV x.start.op,iV x.start.n,iV x.start.u,.string x.start.rn,iV x.start.ri,.slice a2 x.start.args.length p2,.slice L.lets.a L.lets.n L.lets.c,.slice L.crops.a L.crops.n L.crops.c,.slice L.reaches.a L.reaches.n L.reaches.c,.slice L.farms.a L.farms.n L.farms.c,.slice L.rots.a L.rots.n L.rots.c,.slice L.rights.a L.rights.n L.rights.c,.slice L.duties.a L.duties.n L.duties.c] 35 (0,0)):=gm.o
 have bp:=yb f1
 clear f1
 refine DG (by kernel_rfl) (fun W=>W.heap[w.heap.size]?=some (.cells #[.string x.name,iV x.season.op,iV x.season.n,iV x.season.u,.string x.season.rn,iV x.season.ri,.slice a0 x.season.args.length p0,iV x.cap.op,iV x.cap.n,iV x.cap.u,.string x.cap.rn,iV x.cap.ri,.slice a1 x.cap.args.length p1,iV x.start.op,iV x.start.n,iV x.start.u,.string x.start.rn,iV x.start.ri,.slice a2 x.start.args.length p2,.slice L.lets.a L.lets.n L.lets.c,.slice L.crops.a L.crops.n L.crops.c,.slice L.reaches.a L.reaches.n L.reaches.c,.slice L.farms.a L.farms.n L.farms.c,.slice L.rots.a L.rots.n L.rots.c,.slice L.rights.a L.rights.n L.rights.c,.slice L.duties.a L.duties.n L.duties.c] 35 (0,0))) 13 ?_
 refine Ah (i:=0) (v:=pV w.heap.size 19) rfl (by kernel_rfl) (by kernel_rfl) (by kernel_rfl) (fun _ _ _ h=>h) (by kernel_rfl) (Or.inl ⟨by rfl,?_⟩) (fun _=>bp.o) ?_
 ·intro w _;go_simp
 refine Bd (i:=1) (v:=.slice L.lets.a L.lets.n L.lets.c) rfl (by kernel_rfl) (by kernel_rfl) (by kernel_rfl) (fun _ _ _ h=>h) (by kernel_rfl) (Or.inl ⟨by rfl,?_⟩) bp.o ?_
 ·intro W hW
  have hc:W.cell? (aV w.heap.size 19)=some (.slice L.lets.a L.lets.n L.lets.c):=by simp only[World.cell?,hW];rfl
  clear hW
  go_simp
 refine Ah (i:=3) (v:=pV w.heap.size 20) rfl (by kernel_rfl) (by kernel_rfl) (by kernel_rfl) (fun _ _ _ h=>h) (by kernel_rfl) (Or.inl ⟨by rfl,?_⟩) (fun _=>bp.o) ?_
 ·intro w _;go_simp
 refine Bd (i:=4) (v:=.slice L.crops.a L.crops.n L.crops.c) rfl (by kernel_rfl) (by kernel_rfl) (by kernel_rfl) (fun _ _ _ h=>h) (by kernel_rfl) (Or.inl ⟨by rfl,?_⟩) bp.o ?_
 ·intro W hW
  have hc:W.cell? (aV w.heap.size 20)=some (.slice L.crops.a L.crops.n L.crops.c):=by simp only[World.cell?,hW];rfl
  clear hW
  go_simp
 refine Ah (i:=6) (v:=pV w.heap.size 21) rfl (by kernel_rfl) (by kernel_rfl) (by kernel_rfl) (fun _ _ _ h=>h) (by kernel_rfl) (Or.inl ⟨by rfl,?_⟩) (fun _=>bp.o) ?_
 ·intro w _;go_simp
 refine Bd (i:=7) (v:=.slice L.reaches.a L.reaches.n L.reaches.c) rfl (by kernel_rfl) (by kernel_rfl) (by kernel_rfl) (fun _ _ _ h=>h) (by kernel_rfl) (Or.inl ⟨by rfl,?_⟩) bp.o ?_
 ·intro W hW
  have hc:W.cell? (aV w.heap.size 21)=some (.slice L.reaches.a L.reaches.n L.reaches.c):=by simp only[World.cell?,hW];rfl
  clear hW
  go_simp
 refine Ah (i:=9) (v:=pV w.heap.size 22) rfl (by kernel_rfl) (by kernel_rfl) (by kernel_rfl) (fun _ _ _ h=>h) (by kernel_rfl) (Or.inl ⟨by rfl,?_⟩) (fun _=>bp.o) ?_
 ·intro w _;go_simp
 refine Bd (i:=10) (v:=.slice L.farms.a L.farms.n L.farms.c) rfl (by kernel_rfl) (by kernel_rfl) (by kernel_rfl) (fun _ _ _ h=>h) (by kernel_rfl) (Or.inl ⟨by rfl,?_⟩) bp.o ?_
 ·intro W hW
  have hc:W.cell? (aV w.heap.size 22)=some (.slice L.farms.a L.farms.n L.farms.c):=by simp only[World.cell?,hW];rfl
  clear hW
  go_simp
 have bg:Hid (W1.grownBy W1.drew (some w.heap.size)):=yb (Kv fa.o)
 refine Ak (i:=2) (by kernel_rfl) rfl (fun K hK=>?_)
 go_simp
 refine (Ri (HV.o.lets.same (fun _ h=>h) (bq.o _ bg.o) (fun _ _ h=>h)) (bk.o _ bg.o) Qk az.o.lets).mono ?_
 rintro e e3 ⟨⟨a6,a7,Z⟩,rfl,bt,bo,b0⟩
 rw[show As.v ⟨a6,a7,Z⟩=Value.slice a6 a7 Z from rfl]
 simp only at bt b0
 have bj:Hid (W1.grownBy e3 (some w.heap.size)):=yb (AR bg.o (BM bo))
 have cx:Hid (e3.heap[w.heap.size]?=some (.cells #[.string x.name,iV x.season.op,iV x.season.n,iV x.season.u,.string x.season.rn,iV x.season.ri,.slice a0 x.season.args.length p0,iV x.cap.op,iV x.cap.n,iV x.cap.u,.string x.cap.rn,iV x.cap.ri,.slice a1 x.cap.args.length p1,iV x.start.op,iV x.start.n,iV x.start.u,.string x.start.rn,iV x.start.ri,.slice a2 x.start.args.length p2,.slice L.lets.a L.lets.n L.lets.c,.slice L.crops.a L.crops.n L.crops.c,.slice L.reaches.a L.reaches.n L.reaches.c,.slice L.farms.a L.farms.n L.farms.c,.slice L.rots.a L.rots.n L.rots.c,.slice L.rights.a L.rights.n L.rights.c,.slice L.duties.a L.duties.n L.duties.c] 35 (0,0))):=yb ((bo.block _ (by have:=bg.o.size;have:=aa.o;omega)).trans bp.o)
 have E:Hid (Gy W1.heap.size e3 50 7 (K8 N w) ⟨a6,a7,Z⟩ x.lets):=yb (Gy.of bt (by exact bg.o.size) b0)
 clear bt bo b0
 refine hK.o _ _ (fun _=>cx.o) ?_
 clear hK K
 refine Ak (i:=5) (by kernel_rfl) rfl (fun K hK=>?_)
 go_simp
 refine (Ph (HV.o.crops.same (fun _ h=>h) (bq.o _ bj.o) (fun _ _ h=>h)) (bk.o _ bj.o) NA az.o.crops).mono ?_
 rintro e ef ⟨⟨H,F,G⟩,rfl,bd,ar,ap⟩
 rw[show As.v ⟨H,F,G⟩=Value.slice H F G from rfl]
 simp only at bd ap
 have b7:Hid (W1.grownBy ef (some w.heap.size)):=yb (AR bj.o (BM ar))
 have cp:Hid (ef.heap[w.heap.size]?=some (.cells #[.string x.name,iV x.season.op,iV x.season.n,iV x.season.u,.string x.season.rn,iV x.season.ri,.slice a0 x.season.args.length p0,iV x.cap.op,iV x.cap.n,iV x.cap.u,.string x.cap.rn,iV x.cap.ri,.slice a1 x.cap.args.length p1,iV x.start.op,iV x.start.n,iV x.start.u,.string x.start.rn,iV x.start.ri,.slice a2 x.start.args.length p2,.slice L.lets.a L.lets.n L.lets.c,.slice L.crops.a L.crops.n L.crops.c,.slice L.reaches.a L.reaches.n L.reaches.c,.slice L.farms.a L.farms.n L.farms.c,.slice L.rots.a L.rots.n L.rots.c,.slice L.rights.a L.rights.n L.rights.c,.slice L.duties.a L.duties.n L.duties.c] 35 (0,0))):=yb ((ar.block _ (by have:=bj.o.size;have:=aa.o;omega)).trans cx.o)
 replace E:=yb (E.o.up (fun b _ f=>ar.block b f))
 have C:Hid (Gy W1.heap.size ef 92 7 (Hw N w) ⟨H,F,G⟩ x.crops):=yb (Gy.of bd (by exact bj.o.size) ap)
 clear bd ar ap
 refine hK.o _ _ (fun _=>cp.o) ?_
 clear hK K
 refine Ak (i:=8) (by kernel_rfl) rfl (fun K hK=>?_)
 go_simp
 refine (NF (HV.o.reaches.same (fun _ h=>h) (bq.o _ b7.o) (fun _ _ h=>h)) (bk.o _ b7.o) IY az.o.reaches).mono ?_
 rintro e ee ⟨⟨l,m,y⟩,rfl,ao,ag,aj⟩
 rw[show As.v ⟨l,m,y⟩=Value.slice l m y from rfl]
 simp only at ao aj
 have b8:Hid (W1.grownBy ee (some w.heap.size)):=yb (AR b7.o (BM ag))
 have cr:Hid (ee.heap[w.heap.size]?=some (.cells #[.string x.name,iV x.season.op,iV x.season.n,iV x.season.u,.string x.season.rn,iV x.season.ri,.slice a0 x.season.args.length p0,iV x.cap.op,iV x.cap.n,iV x.cap.u,.string x.cap.rn,iV x.cap.ri,.slice a1 x.cap.args.length p1,iV x.start.op,iV x.start.n,iV x.start.u,.string x.start.rn,iV x.start.ri,.slice a2 x.start.args.length p2,.slice L.lets.a L.lets.n L.lets.c,.slice L.crops.a L.crops.n L.crops.c,.slice L.reaches.a L.reaches.n L.reaches.c,.slice L.farms.a L.farms.n L.farms.c,.slice L.rots.a L.rots.n L.rots.c,.slice L.rights.a L.rights.n L.rights.c,.slice L.duties.a L.duties.n L.duties.c] 35 (0,0))):=yb ((ag.block _ (by have:=b7.o.size;have:=aa.o;omega)).trans cp.o)
 replace E:=yb (E.o.up (fun b _ f=>ag.block b f))
 replace C:=yb (C.o.up (fun b _ f=>ag.block b f))
 have A:Hid (Gy W1.heap.size ee 66 51 (EW N w) ⟨l,m,y⟩ x.reaches):=yb (Gy.of ao (by exact b7.o.size) aj)
 clear ao ag aj
 refine hK.o _ _ (fun _=>cr.o) ?_
 clear hK K
 refine Ak (i:=11) (by kernel_rfl) rfl (fun K hK=>?_)
 go_simp
 refine (Pj (HV.o.farms.same (fun _ h=>h) (bq.o _ b8.o) (fun _ _ h=>h)) (bk.o _ b8.o) NC az.o.farms).mono ?_
 rintro e c8 ⟨⟨S,nfarms,T⟩,rfl,bb,ai,aq⟩
 rw[show As.v ⟨S,nfarms,T⟩=Value.slice S nfarms T from rfl]
 simp only at bb aq
 have e6:Hid (W1.grownBy c8 (some w.heap.size)):=yb (AR b8.o (BM ai))
 have av:Hid (c8.heap[w.heap.size]?=some (.cells #[.string x.name,iV x.season.op,iV x.season.n,iV x.season.u,.string x.season.rn,iV x.season.ri,.slice a0 x.season.args.length p0,iV x.cap.op,iV x.cap.n,iV x.cap.u,.string x.cap.rn,iV x.cap.ri,.slice a1 x.cap.args.length p1,iV x.start.op,iV x.start.n,iV x.start.u,.string x.start.rn,iV x.start.ri,.slice a2 x.start.args.length p2,.slice L.lets.a L.lets.n L.lets.c,.slice L.crops.a L.crops.n L.crops.c,.slice L.reaches.a L.reaches.n L.reaches.c,.slice L.farms.a L.farms.n L.farms.c,.slice L.rots.a L.rots.n L.rots.c,.slice L.rights.a L.rights.n L.rights.c,.slice L.duties.a L.duties.n L.duties.c] 35 (0,0))):=yb ((ai.block _ (by have:=b8.o.size;have:=aa.o;omega)).trans cr.o)
 replace E:=yb (E.o.up (fun b _ f=>ai.block b f))
 replace C:=yb (C.o.up (fun b _ f=>ai.block b f))
 replace A:=yb (A.o.up (fun b _ f=>ai.block b f))
 have X:Hid (Gy W1.heap.size c8 94 12 (Hx N w) ⟨S,nfarms,T⟩ x.farms):=yb (Gy.of bb (by exact b8.o.size) aq)
 clear bb ai aq
 refine hK.o _ _ (fun _=>av.o) ?_
 clear hK K
 refine Ah (i:=12) (v:=pV w.heap.size 19) rfl (by kernel_rfl) (by kernel_rfl) (by kernel_rfl) (fun _ _ _ h=>h) (by kernel_rfl) (Or.inl ⟨by rfl,?_⟩) (by first|exact fun _=>av.o|(intro h;cases h)) ?_
 ·intro w _;go_simp
 refine Ak (i:=13) (by kernel_rfl) rfl (fun K hK=>?_)
 have hc:c8.cell? (aV w.heap.size 19)=some (.slice L.lets.a L.lets.n L.lets.c):=by simp only[World.cell?,av.o];rfl
 have hf:c8.frozen? (aV w.heap.size 19)=false:=by simp[World.frozen?,av.o]
 go_simp
 have bz:Hid ((c8.setCell (aV w.heap.size 19) (.slice a6 a7 Z)).heap[w.heap.size]?=some (.cells #[.string x.name,iV x.season.op,iV x.season.n,iV x.season.u,.string x.season.rn,iV x.season.ri,.slice a0 x.season.args.length p0,iV x.cap.op,iV x.cap.n,iV x.cap.u,.string x.cap.rn,iV x.cap.ri,.slice a1 x.cap.args.length p1,iV x.start.op,iV x.start.n,iV x.start.u,.string x.start.rn,iV x.start.ri,.slice a2 x.start.args.length p2,.slice a6 a7 Z,.slice L.crops.a L.crops.n L.crops.c,.slice L.reaches.a L.reaches.n L.reaches.c,.slice L.farms.a L.farms.n L.farms.c,.slice L.rots.a L.rots.n L.rots.c,.slice L.rights.a L.rights.n L.rights.c,.slice L.duties.a L.duties.n L.duties.c] 35 (0,0))):=yb (by
  have:=zm c8 w.heap.size 19 _ _ (.slice a6 a7 Z) av.o
  rw[this];rfl)
 replace E:=yb (E.o.up (fun b hB f=>(Ac (.slice a6 a7 Z) hc).1.block b f (fun e=>by cases e;have:=aa.o;omega)))
 replace C:=yb (C.o.up (fun b hB f=>(Ac (.slice a6 a7 Z) hc).1.block b f (fun e=>by cases e;have:=aa.o;omega)))
 replace A:=yb (A.o.up (fun b hB f=>(Ac (.slice a6 a7 Z) hc).1.block b f (fun e=>by cases e;have:=aa.o;omega)))
 replace X:=yb (X.o.up (fun b hB f=>(Ac (.slice a6 a7 Z) hc).1.block b f (fun e=>by cases e;have:=aa.o;omega)))
 have f0:=yb (AR e6.o (Ac (.slice a6 a7 Z) hc).1)
 clear hc hf
 generalize c8.setCell (aV w.heap.size 19) (.slice a6 a7 Z)=d2 at*
 refine hK.o _ _ (by first|(intro h;cases h;done)|exact fun _=>av.o) ?_
 clear hK K
 refine Ah (i:=14) (v:=pV w.heap.size 20) rfl (by kernel_rfl) (by kernel_rfl) (by kernel_rfl) (fun _ _ _ h=>h) (by kernel_rfl) (Or.inl ⟨by rfl,?_⟩) (by first|exact fun _=>bz.o|(intro h;cases h)) ?_
 ·intro w _;go_simp
 refine Ak (i:=15) (by kernel_rfl) rfl (fun K hK=>?_)
 have hc:d2.cell? (aV w.heap.size 20)=some (.slice L.crops.a L.crops.n L.crops.c):=by simp only[World.cell?,bz.o];rfl
 have hf:d2.frozen? (aV w.heap.size 20)=false:=by simp[World.frozen?,bz.o]
 go_simp
 have cc:Hid ((d2.setCell (aV w.heap.size 20) (.slice H F G)).heap[w.heap.size]?=some (.cells #[.string x.name,iV x.season.op,iV x.season.n,iV x.season.u,.string x.season.rn,iV x.season.ri,.slice a0 x.season.args.length p0,iV x.cap.op,iV x.cap.n,iV x.cap.u,.string x.cap.rn,iV x.cap.ri,.slice a1 x.cap.args.length p1,iV x.start.op,iV x.start.n,iV x.start.u,.string x.start.rn,iV x.start.ri,.slice a2 x.start.args.length p2,.slice a6 a7 Z,.slice H F G,.slice L.reaches.a L.reaches.n L.reaches.c,.slice L.farms.a L.farms.n L.farms.c,.slice L.rots.a L.rots.n L.rots.c,.slice L.rights.a L.rights.n L.rights.c,.slice L.duties.a L.duties.n L.duties.c] 35 (0,0))):=yb (by
  have:=zm d2 w.heap.size 20 _ _ (.slice H F G) bz.o
  rw[this];rfl)
 replace E:=yb (E.o.up (fun b hB f=>(Ac (.slice H F G) hc).1.block b f (fun e=>by cases e;have:=aa.o;omega)))
 replace C:=yb (C.o.up (fun b hB f=>(Ac (.slice H F G) hc).1.block b f (fun e=>by cases e;have:=aa.o;omega)))
 replace A:=yb (A.o.up (fun b hB f=>(Ac (.slice H F G) hc).1.block b f (fun e=>by cases e;have:=aa.o;omega)))
 replace X:=yb (X.o.up (fun b hB f=>(Ac (.slice H F G) hc).1.block b f (fun e=>by cases e;have:=aa.o;omega)))
 have fc:=yb (AR f0.o (Ac (.slice H F G) hc).1)
 clear hc hf
 generalize d2.setCell (aV w.heap.size 20) (.slice H F G)=d6 at*
 refine hK.o _ _ (by first|(intro h;cases h;done)|exact fun _=>bz.o) ?_
 clear hK K
 refine Ah (i:=16) (v:=pV w.heap.size 21) rfl (by kernel_rfl) (by kernel_rfl) (by kernel_rfl) (fun _ _ _ h=>h) (by kernel_rfl) (Or.inl ⟨by rfl,?_⟩) (by first|exact fun _=>cc.o|(intro h;cases h)) ?_
 ·intro w _;go_simp
 refine Ak (i:=17) (by kernel_rfl) rfl (fun K hK=>?_)
 have hc:d6.cell? (aV w.heap.size 21)=some (.slice L.reaches.a L.reaches.n L.reaches.c):=by simp only[World.cell?,cc.o];rfl
 have hf:d6.frozen? (aV w.heap.size 21)=false:=by simp[World.frozen?,cc.o]
 go_simp
 have c9:Hid ((d6.setCell (aV w.heap.size 21) (.slice l m y)).heap[w.heap.size]?=some (.cells #[.string x.name,iV x.season.op,iV x.season.n,iV x.season.u,.string x.season.rn,iV x.season.ri,.slice a0 x.season.args.length p0,iV x.cap.op,iV x.cap.n,iV x.cap.u,.string x.cap.rn,iV x.cap.ri,.slice a1 x.cap.args.length p1,iV x.start.op,iV x.start.n,iV x.start.u,.string x.start.rn,iV x.start.ri,.slice a2 x.start.args.length p2,.slice a6 a7 Z,.slice H F G,.slice l m y,.slice L.farms.a L.farms.n L.farms.c,.slice L.rots.a L.rots.n L.rots.c,.slice L.rights.a L.rights.n L.rights.c,.slice L.duties.a L.duties.n L.duties.c] 35 (0,0))):=yb (by
  have:=zm d6 w.heap.size 21 _ _ (.slice l m y) cc.o
  rw[this];rfl)
 replace E:=yb (E.o.up (fun b hB f=>(Ac (.slice l m y) hc).1.block b f (fun e=>by cases e;have:=aa.o;omega)))
 replace C:=yb (C.o.up (fun b hB f=>(Ac (.slice l m y) hc).1.block b f (fun e=>by cases e;have:=aa.o;omega)))
 replace A:=yb (A.o.up (fun b hB f=>(Ac (.slice l m y) hc).1.block b f (fun e=>by cases e;have:=aa.o;omega)))
 replace X:=yb (X.o.up (fun b hB f=>(Ac (.slice l m y) hc).1.block b f (fun e=>by cases e;have:=aa.o;omega)))
 have fe:=yb (AR fc.o (Ac (.slice l m y) hc).1)
 clear hc hf
 generalize d6.setCell (aV w.heap.size 21) (.slice l m y)=d1 at*
 refine hK.o _ _ (by first|(intro h;cases h;done)|exact fun _=>cc.o) ?_
 clear hK K
 refine Ah (i:=18) (v:=pV w.heap.size 22) rfl (by kernel_rfl) (by kernel_rfl) (by kernel_rfl) (fun _ _ _ h=>h) (by kernel_rfl) (Or.inl ⟨by rfl,?_⟩) (by first|exact fun _=>c9.o|(intro h;cases h)) ?_
 ·intro w _;go_simp
 refine Ak (i:=19) (by kernel_rfl) rfl (fun K hK=>?_)
 have hc:d1.cell? (aV w.heap.size 22)=some (.slice L.farms.a L.farms.n L.farms.c):=by simp only[World.cell?,c9.o];rfl
 have hf:d1.frozen? (aV w.heap.size 22)=false:=by simp[World.frozen?,c9.o]
 go_simp
 have fj:Hid ((d1.setCell (aV w.heap.size 22) (.slice S nfarms T)).heap[w.heap.size]?=some (.cells #[.string x.name,iV x.season.op,iV x.season.n,iV x.season.u,.string x.season.rn,iV x.season.ri,.slice a0 x.season.args.length p0,iV x.cap.op,iV x.cap.n,iV x.cap.u,.string x.cap.rn,iV x.cap.ri,.slice a1 x.cap.args.length p1,iV x.start.op,iV x.start.n,iV x.start.u,.string x.start.rn,iV x.start.ri,.slice a2 x.start.args.length p2,.slice a6 a7 Z,.slice H F G,.slice l m y,.slice S nfarms T,.slice L.rots.a L.rots.n L.rots.c,.slice L.rights.a L.rights.n L.rights.c,.slice L.duties.a L.duties.n L.duties.c] 35 (0,0))):=yb (by
  have:=zm d1 w.heap.size 22 _ _ (.slice S nfarms T) c9.o
  rw[this];rfl)
 replace E:=yb (E.o.up (fun b hB f=>(Ac (.slice S nfarms T) hc).1.block b f (fun e=>by cases e;have:=aa.o;omega)))
 replace C:=yb (C.o.up (fun b hB f=>(Ac (.slice S nfarms T) hc).1.block b f (fun e=>by cases e;have:=aa.o;omega)))
 replace A:=yb (A.o.up (fun b hB f=>(Ac (.slice S nfarms T) hc).1.block b f (fun e=>by cases e;have:=aa.o;omega)))
 replace X:=yb (X.o.up (fun b hB f=>(Ac (.slice S nfarms T) hc).1.block b f (fun e=>by cases e;have:=aa.o;omega)))
 have eu:=yb (AR fe.o (Ac (.slice S nfarms T) hc).1)
 clear hc hf
 generalize d1.setCell (aV w.heap.size 22) (.slice S nfarms T)=f5 at*
 refine hK.o _ _ (by first|(intro h;cases h;done)|exact fun _=>c9.o) ?_
 clear hK K
 refine DF (by kernel_rfl) ?_
 refine NoPanic.normal ?_
 simp only[Exit.then]
 refine A9 (A4 ?_)
 refine wp_region_noPanic ?_
 have fi:f5.drew.heap[w.heap.size]?=some (.cells #[.string x.name,iV x.season.op,iV x.season.n,iV x.season.u,.string x.season.rn,iV x.season.ri,.slice a0 x.season.args.length p0,iV x.cap.op,iV x.cap.n,iV x.cap.u,.string x.cap.rn,iV x.cap.ri,.slice a1 x.cap.args.length p1,iV x.start.op,iV x.start.n,iV x.start.u,.string x.start.rn,iV x.start.ri,.slice a2 x.start.args.length p2,.slice a6 a7 Z,.slice H F G,.slice l m y,.slice S nfarms T,.slice L.rots.a L.rots.n L.rots.c,.slice L.rights.a L.rights.n L.rights.c,.slice L.duties.a L.duties.n L.duties.c] 35 (0,0)):=fj.o
 have ch:=yb fi
 clear fi
 refine DG (by kernel_rfl) (fun W=>W.heap[w.heap.size]?=some (.cells #[.string x.name,iV x.season.op,iV x.season.n,iV x.season.u,.string x.season.rn,iV x.season.ri,.slice a0 x.season.args.length p0,iV x.cap.op,iV x.cap.n,iV x.cap.u,.string x.cap.rn,iV x.cap.ri,.slice a1 x.cap.args.length p1,iV x.start.op,iV x.start.n,iV x.start.u,.string x.start.rn,iV x.start.ri,.slice a2 x.start.args.length p2,.slice a6 a7 Z,.slice H F G,.slice l m y,.slice S nfarms T,.slice L.rots.a L.rots.n L.rots.c,.slice L.rights.a L.rights.n L.rights.c,.slice L.duties.a L.duties.n L.duties.c] 35 (0,0))) 10 ?_
 refine Ah (i:=0) (v:=pV w.heap.size 23) rfl (by kernel_rfl) (by kernel_rfl) (by kernel_rfl) (fun _ _ _ h=>h) (by kernel_rfl) (Or.inl ⟨by rfl,?_⟩) (fun _=>ch.o) ?_
 ·intro w _;go_simp
 refine Bd (i:=1) (v:=.slice L.rots.a L.rots.n L.rots.c) rfl (by kernel_rfl) (by kernel_rfl) (by kernel_rfl) (fun _ _ _ h=>h) (by kernel_rfl) (Or.inl ⟨by rfl,?_⟩) ch.o ?_
 ·intro W hW
  have hc:W.cell? (aV w.heap.size 23)=some (.slice L.rots.a L.rots.n L.rots.c):=by simp only[World.cell?,hW];rfl
  clear hW
  go_simp
 refine Ah (i:=3) (v:=pV w.heap.size 24) rfl (by kernel_rfl) (by kernel_rfl) (by kernel_rfl) (fun _ _ _ h=>h) (by kernel_rfl) (Or.inl ⟨by rfl,?_⟩) (fun _=>ch.o) ?_
 ·intro w _;go_simp
 refine Bd (i:=4) (v:=.slice L.rights.a L.rights.n L.rights.c) rfl (by kernel_rfl) (by kernel_rfl) (by kernel_rfl) (fun _ _ _ h=>h) (by kernel_rfl) (Or.inl ⟨by rfl,?_⟩) ch.o ?_
 ·intro W hW
  have hc:W.cell? (aV w.heap.size 24)=some (.slice L.rights.a L.rights.n L.rights.c):=by simp only[World.cell?,hW];rfl
  clear hW
  go_simp
 refine Ah (i:=6) (v:=pV w.heap.size 25) rfl (by kernel_rfl) (by kernel_rfl) (by kernel_rfl) (fun _ _ _ h=>h) (by kernel_rfl) (Or.inl ⟨by rfl,?_⟩) (fun _=>ch.o) ?_
 ·intro w _;go_simp
 refine Bd (i:=7) (v:=.slice L.duties.a L.duties.n L.duties.c) rfl (by kernel_rfl) (by kernel_rfl) (by kernel_rfl) (fun _ _ _ h=>h) (by kernel_rfl) (Or.inl ⟨by rfl,?_⟩) ch.o ?_
 ·intro W hW
  have hc:W.cell? (aV w.heap.size 25)=some (.slice L.duties.a L.duties.n L.duties.c):=by simp only[World.cell?,hW];rfl
  clear hW
  go_simp
 have be:Hid (W1.grownBy f5.drew (some w.heap.size)):=yb (Kv eu.o)
 refine Ak (i:=2) (by kernel_rfl) rfl (fun K hK=>?_)
 go_simp
 refine (Rj (Q:=(fun cs (d:BA × Nat)=>GM N w (A2 L d.2) cs d.1)) (SJ (HV.o.rots) (bq.o _ be.o)) (bk.o _ be.o) SI (by rw[zB];exact az.o.rots)).mono ?_
 rintro e eh ⟨⟨a8,nrots,Y⟩,rfl,bn,ak,ay⟩
 rw[show As.v ⟨a8,nrots,Y⟩=Value.slice a8 nrots Y from rfl]
 simp only at bn ay
 have bh:Hid (W1.grownBy eh (some w.heap.size)):=yb (AR be.o (BM ak))
 have co:Hid (eh.heap[w.heap.size]?=some (.cells #[.string x.name,iV x.season.op,iV x.season.n,iV x.season.u,.string x.season.rn,iV x.season.ri,.slice a0 x.season.args.length p0,iV x.cap.op,iV x.cap.n,iV x.cap.u,.string x.cap.rn,iV x.cap.ri,.slice a1 x.cap.args.length p1,iV x.start.op,iV x.start.n,iV x.start.u,.string x.start.rn,iV x.start.ri,.slice a2 x.start.args.length p2,.slice a6 a7 Z,.slice H F G,.slice l m y,.slice S nfarms T,.slice L.rots.a L.rots.n L.rots.c,.slice L.rights.a L.rights.n L.rights.c,.slice L.duties.a L.duties.n L.duties.c] 35 (0,0))):=yb ((ak.block _ (by have:=be.o.size;have:=aa.o;omega)).trans ch.o)
 replace E:=yb (E.o.up (fun b _ f=>ak.block b f))
 replace C:=yb (C.o.up (fun b _ f=>ak.block b f))
 replace A:=yb (A.o.up (fun b _ f=>ak.block b f))
 replace X:=yb (X.o.up (fun b _ f=>ak.block b f))
 have ab:Hid (Gy W1.heap.size eh 109 23 (fun cs (d:BA × Nat)=>GM N w (A2 L d.2) cs d.1) ⟨a8,nrots,Y⟩ x.rots.zipIdx):=yb (Gy.of bn (by exact be.o.size) ay)
 clear bn ak ay
 refine hK.o _ _ (fun _=>co.o) ?_
 clear hK K
 refine Ak (i:=5) (by kernel_rfl) rfl (fun K hK=>?_)
 go_simp
 refine (NG (HV.o.rights.same (fun _ h=>h) (bq.o _ bh.o) (fun _ _ h=>h)) (bk.o _ bh.o) IZ az.o.rights).mono ?_
 rintro e dy ⟨⟨I,nrights,J⟩,rfl,au,af,am⟩
 rw[show As.v ⟨I,nrights,J⟩=Value.slice I nrights J from rfl]
 simp only at au am
 have bi:Hid (W1.grownBy dy (some w.heap.size)):=yb (AR bh.o (BM af))
 have cq:Hid (dy.heap[w.heap.size]?=some (.cells #[.string x.name,iV x.season.op,iV x.season.n,iV x.season.u,.string x.season.rn,iV x.season.ri,.slice a0 x.season.args.length p0,iV x.cap.op,iV x.cap.n,iV x.cap.u,.string x.cap.rn,iV x.cap.ri,.slice a1 x.cap.args.length p1,iV x.start.op,iV x.start.n,iV x.start.u,.string x.start.rn,iV x.start.ri,.slice a2 x.start.args.length p2,.slice a6 a7 Z,.slice H F G,.slice l m y,.slice S nfarms T,.slice L.rots.a L.rots.n L.rots.c,.slice L.rights.a L.rights.n L.rights.c,.slice L.duties.a L.duties.n L.duties.c] 35 (0,0))):=yb ((af.block _ (by have:=bh.o.size;have:=aa.o;omega)).trans co.o)
 replace E:=yb (E.o.up (fun b _ f=>af.block b f))
 replace C:=yb (C.o.up (fun b _ f=>af.block b f))
 replace A:=yb (A.o.up (fun b _ f=>af.block b f))
 replace X:=yb (X.o.up (fun b _ f=>af.block b f))
 replace ab:=yb (ab.o.up (fun b _ f=>af.block b f))
 have ac:Hid (Gy W1.heap.size dy 131 37 (EX N w) ⟨I,nrights,J⟩ x.rights):=yb (Gy.of au (by exact bh.o.size) am)
 clear au af am
 refine hK.o _ _ (fun _=>cq.o) ?_
 clear hK K
 refine Ak (i:=8) (by kernel_rfl) rfl (fun K hK=>?_)
 go_simp
 refine (Pk (HV.o.duties.same (fun _ h=>h) (bq.o _ bi.o) (fun _ _ h=>h)) (bk.o _ bi.o) ND az.o.duties).mono ?_
 rintro e bw ⟨⟨P,nduties,R⟩,rfl,aw,ad,al⟩
 rw[show As.v ⟨P,nduties,R⟩=Value.slice P nduties R from rfl]
 simp only at aw al
 have dw:Hid (W1.grownBy bw (some w.heap.size)):=yb (AR bi.o (BM ad))
 have ax:Hid (bw.heap[w.heap.size]?=some (.cells #[.string x.name,iV x.season.op,iV x.season.n,iV x.season.u,.string x.season.rn,iV x.season.ri,.slice a0 x.season.args.length p0,iV x.cap.op,iV x.cap.n,iV x.cap.u,.string x.cap.rn,iV x.cap.ri,.slice a1 x.cap.args.length p1,iV x.start.op,iV x.start.n,iV x.start.u,.string x.start.rn,iV x.start.ri,.slice a2 x.start.args.length p2,.slice a6 a7 Z,.slice H F G,.slice l m y,.slice S nfarms T,.slice L.rots.a L.rots.n L.rots.c,.slice L.rights.a L.rights.n L.rights.c,.slice L.duties.a L.duties.n L.duties.c] 35 (0,0))):=yb ((ad.block _ (by have:=bi.o.size;have:=aa.o;omega)).trans cq.o)
 replace E:=yb (E.o.up (fun b _ f=>ad.block b f))
 replace C:=yb (C.o.up (fun b _ f=>ad.block b f))
 replace A:=yb (A.o.up (fun b _ f=>ad.block b f))
 replace X:=yb (X.o.up (fun b _ f=>ad.block b f))
 replace ab:=yb (ab.o.up (fun b _ f=>ad.block b f))
 replace ac:=yb (ac.o.up (fun b _ f=>ad.block b f))
 have ae:Hid (Gy W1.heap.size bw 135 11 (Hy N w) ⟨P,nduties,R⟩ x.duties):=yb (Gy.of aw (by exact bi.o.size) al)
 clear aw ad al
 refine hK.o _ _ (fun _=>ax.o) ?_
 clear hK K
 refine Ah (i:=9) (v:=pV w.heap.size 23) rfl (by kernel_rfl) (by kernel_rfl) (by kernel_rfl) (fun _ _ _ h=>h) (by kernel_rfl) (Or.inl ⟨by rfl,?_⟩) (by first|exact fun _=>ax.o|(intro h;cases h)) ?_
 ·intro w _;go_simp
 refine Ak (i:=10) (by kernel_rfl) rfl (fun K hK=>?_)
 have hc:bw.cell? (aV w.heap.size 23)=some (.slice L.rots.a L.rots.n L.rots.c):=by simp only[World.cell?,ax.o];rfl
 have hf:bw.frozen? (aV w.heap.size 23)=false:=by simp[World.frozen?,ax.o]
 go_simp
 have bu:Hid ((bw.setCell (aV w.heap.size 23) (.slice a8 nrots Y)).heap[w.heap.size]?=some (.cells #[.string x.name,iV x.season.op,iV x.season.n,iV x.season.u,.string x.season.rn,iV x.season.ri,.slice a0 x.season.args.length p0,iV x.cap.op,iV x.cap.n,iV x.cap.u,.string x.cap.rn,iV x.cap.ri,.slice a1 x.cap.args.length p1,iV x.start.op,iV x.start.n,iV x.start.u,.string x.start.rn,iV x.start.ri,.slice a2 x.start.args.length p2,.slice a6 a7 Z,.slice H F G,.slice l m y,.slice S nfarms T,.slice a8 nrots Y,.slice L.rights.a L.rights.n L.rights.c,.slice L.duties.a L.duties.n L.duties.c] 35 (0,0))):=yb (by
  have:=zm bw w.heap.size 23 _ _ (.slice a8 nrots Y) ax.o
  rw[this];rfl)
 replace E:=yb (E.o.up (fun b hB f=>(Ac (.slice a8 nrots Y) hc).1.block b f (fun e=>by cases e;have:=aa.o;omega)))
 replace C:=yb (C.o.up (fun b hB f=>(Ac (.slice a8 nrots Y) hc).1.block b f (fun e=>by cases e;have:=aa.o;omega)))
 replace A:=yb (A.o.up (fun b hB f=>(Ac (.slice a8 nrots Y) hc).1.block b f (fun e=>by cases e;have:=aa.o;omega)))
 replace X:=yb (X.o.up (fun b hB f=>(Ac (.slice a8 nrots Y) hc).1.block b f (fun e=>by cases e;have:=aa.o;omega)))
 replace ab:=yb (ab.o.up (fun b hB f=>(Ac (.slice a8 nrots Y) hc).1.block b f (fun e=>by cases e;have:=aa.o;omega)))
 replace ac:=yb (ac.o.up (fun b hB f=>(Ac (.slice a8 nrots Y) hc).1.block b f (fun e=>by cases e;have:=aa.o;omega)))
 replace ae:=yb (ae.o.up (fun b hB f=>(Ac (.slice a8 nrots Y) hc).1.block b f (fun e=>by cases e;have:=aa.o;omega)))
 have ft:=yb (AR dw.o (Ac (.slice a8 nrots Y) hc).1)
 clear hc hf
 generalize bw.setCell (aV w.heap.size 23) (.slice a8 nrots Y)=d7 at*
 refine hK.o _ _ (by first|(intro h;cases h;done)|exact fun _=>ax.o) ?_
 clear hK K
 refine Ah (i:=11) (v:=pV w.heap.size 24) rfl (by kernel_rfl) (by kernel_rfl) (by kernel_rfl) (fun _ _ _ h=>h) (by kernel_rfl) (Or.inl ⟨by rfl,?_⟩) (by first|exact fun _=>bu.o|(intro h;cases h)) ?_
 ·intro w _;go_simp
 refine Ak (i:=12) (by kernel_rfl) rfl (fun K hK=>?_)
 have hc:d7.cell? (aV w.heap.size 24)=some (.slice L.rights.a L.rights.n L.rights.c):=by simp only[World.cell?,bu.o];rfl
 have hf:d7.frozen? (aV w.heap.size 24)=false:=by simp[World.frozen?,bu.o]
 go_simp
 have bv:Hid ((d7.setCell (aV w.heap.size 24) (.slice I nrights J)).heap[w.heap.size]?=some (.cells #[.string x.name,iV x.season.op,iV x.season.n,iV x.season.u,.string x.season.rn,iV x.season.ri,.slice a0 x.season.args.length p0,iV x.cap.op,iV x.cap.n,iV x.cap.u,.string x.cap.rn,iV x.cap.ri,.slice a1 x.cap.args.length p1,iV x.start.op,iV x.start.n,iV x.start.u,.string x.start.rn,iV x.start.ri,.slice a2 x.start.args.length p2,.slice a6 a7 Z,.slice H F G,.slice l m y,.slice S nfarms T,.slice a8 nrots Y,.slice I nrights J,.slice L.duties.a L.duties.n L.duties.c] 35 (0,0))):=yb (by
  have:=zm d7 w.heap.size 24 _ _ (.slice I nrights J) bu.o
  rw[this];rfl)
 replace E:=yb (E.o.up (fun b hB f=>(Ac (.slice I nrights J) hc).1.block b f (fun e=>by cases e;have:=aa.o;omega)))
 replace C:=yb (C.o.up (fun b hB f=>(Ac (.slice I nrights J) hc).1.block b f (fun e=>by cases e;have:=aa.o;omega)))
 replace A:=yb (A.o.up (fun b hB f=>(Ac (.slice I nrights J) hc).1.block b f (fun e=>by cases e;have:=aa.o;omega)))
 replace X:=yb (X.o.up (fun b hB f=>(Ac (.slice I nrights J) hc).1.block b f (fun e=>by cases e;have:=aa.o;omega)))
 replace ab:=yb (ab.o.up (fun b hB f=>(Ac (.slice I nrights J) hc).1.block b f (fun e=>by cases e;have:=aa.o;omega)))
 replace ac:=yb (ac.o.up (fun b hB f=>(Ac (.slice I nrights J) hc).1.block b f (fun e=>by cases e;have:=aa.o;omega)))
 replace ae:=yb (ae.o.up (fun b hB f=>(Ac (.slice I nrights J) hc).1.block b f (fun e=>by cases e;have:=aa.o;omega)))
 have g3:=yb (AR ft.o (Ac (.slice I nrights J) hc).1)
 clear hc hf
 generalize d7.setCell (aV w.heap.size 24) (.slice I nrights J)=cu at*
 refine hK.o _ _ (by first|(intro h;cases h;done)|exact fun _=>bu.o) ?_
 clear hK K
 refine Ah (i:=13) (v:=pV w.heap.size 25) rfl (by kernel_rfl) (by kernel_rfl) (by kernel_rfl) (fun _ _ _ h=>h) (by kernel_rfl) (Or.inl ⟨by rfl,?_⟩) (by first|exact fun _=>bv.o|(intro h;cases h)) ?_
 ·intro w _;go_simp
 refine Ak (i:=14) (by kernel_rfl) rfl (fun K hK=>?_)
 have hc:cu.cell? (aV w.heap.size 25)=some (.slice L.duties.a L.duties.n L.duties.c):=by simp only[World.cell?,bv.o];rfl
 have hf:cu.frozen? (aV w.heap.size 25)=false:=by simp[World.frozen?,bv.o]
 go_simp
 have fx:Hid ((cu.setCell (aV w.heap.size 25) (.slice P nduties R)).heap[w.heap.size]?=some (.cells #[.string x.name,iV x.season.op,iV x.season.n,iV x.season.u,.string x.season.rn,iV x.season.ri,.slice a0 x.season.args.length p0,iV x.cap.op,iV x.cap.n,iV x.cap.u,.string x.cap.rn,iV x.cap.ri,.slice a1 x.cap.args.length p1,iV x.start.op,iV x.start.n,iV x.start.u,.string x.start.rn,iV x.start.ri,.slice a2 x.start.args.length p2,.slice a6 a7 Z,.slice H F G,.slice l m y,.slice S nfarms T,.slice a8 nrots Y,.slice I nrights J,.slice P nduties R] 35 (0,0))):=yb (by
  have:=zm cu w.heap.size 25 _ _ (.slice P nduties R) bv.o
  rw[this];rfl)
 replace E:=yb (E.o.up (fun b hB f=>(Ac (.slice P nduties R) hc).1.block b f (fun e=>by cases e;have:=aa.o;omega)))
 replace C:=yb (C.o.up (fun b hB f=>(Ac (.slice P nduties R) hc).1.block b f (fun e=>by cases e;have:=aa.o;omega)))
 replace A:=yb (A.o.up (fun b hB f=>(Ac (.slice P nduties R) hc).1.block b f (fun e=>by cases e;have:=aa.o;omega)))
 replace X:=yb (X.o.up (fun b hB f=>(Ac (.slice P nduties R) hc).1.block b f (fun e=>by cases e;have:=aa.o;omega)))
 replace ab:=yb (ab.o.up (fun b hB f=>(Ac (.slice P nduties R) hc).1.block b f (fun e=>by cases e;have:=aa.o;omega)))
 replace ac:=yb (ac.o.up (fun b hB f=>(Ac (.slice P nduties R) hc).1.block b f (fun e=>by cases e;have:=aa.o;omega)))
 replace ae:=yb (ae.o.up (fun b hB f=>(Ac (.slice P nduties R) hc).1.block b f (fun e=>by cases e;have:=aa.o;omega)))
 have fs:=yb (AR g3.o (Ac (.slice P nduties R) hc).1)
 clear hc hf
 generalize cu.setCell (aV w.heap.size 25) (.slice P nduties R)=go at*
 refine hK.o _ _ (by first|(intro h;cases h;done)|exact fun _=>bv.o) ?_
 clear hK K
 refine DF (by kernel_rfl) ?_
 refine NoPanic.normal ?_
 simp only[Exit.then]
 obtain ⟨U,rfl⟩:∃z:World,z=go:=⟨_,rfl⟩
 have HQ:=yb fx.o
 have HP:=yb fs.o
 have dr:nrots=x.rots.length:=by have:=ab.o.1;simp only[zB] at this;exact this
 have g9:nrots<=100000:=by rw[dr];exact az.o.rots
 have db:=yb dr
 clear dr
 have ck:U.cell? (aV w.heap.size 23)=some (.slice a8 nrots Y):=by simp only[World.cell?,HQ.o];rfl
 refine A9 (A4 ?_)
 go_wp2
 clear ck
 go_loopw [37] (fun iv wr=>∃hs:List As,hs.length<=nrots∧iv=iV (hs.length:Int)∧Hid (Vl U a8 N w x.rots hs wr)) (fun iv _=>nrots - (intOf iv).toNat)
 case atStart=>exact ⟨[],yH _,rfl,yb ⟨Ku _ _,yH _,fun _ _ _ h=>h,fun _ _ _ _=>rfl,fun j hj=>by simp at hj⟩⟩
 case round=>
  obtain ⟨hs,hi,rfl,ah⟩:=hrel
  obtain ⟨i,cm⟩:∃i,i=hs.length:=⟨_,rfl⟩
  rw[<-cm] at hi ⊢
  by_cases f:i < nrots
  ·have gj:i < x.rots.zipIdx.length:=by rw[zB,<-db.o];exact f
   have cj:i < x.rots.length:=by rw[<-db.o];exact f
   obtain ⟨g,cs,ha,g4,cf,b4,et,d0⟩:=ab.o.2 i gj
   simp only at ha
   subst ha
   rw[qd] at d0
   simp only[yw] at d0
   have cz:=LY d0 b4
   have hz:=aa.o
   have fw:wr.cell? (aV g (i*23+22))=some (.slice (A2 L i).a (A2 L i).n (A2 L i).c):=(ah.o.cells g rfl _ (fun j hj=>by omega)).trans (et 22 _ cz)
   have ej:wr.heap[w.heap.size]?=some (.cells #[.string x.name,iV x.season.op,iV x.season.n,iV x.season.u,.string x.season.rn,iV x.season.ri,.slice a0 x.season.args.length p0,iV x.cap.op,iV x.cap.n,iV x.cap.u,.string x.cap.rn,iV x.cap.ri,.slice a1 x.cap.args.length p1,iV x.start.op,iV x.start.n,iV x.start.u,.string x.start.rn,iV x.start.ri,.slice a2 x.start.args.length p2,.slice a6 a7 Z,.slice H F G,.slice l m y,.slice S nfarms T,.slice (some (aV g 0)) nrots Y,.slice I nrights J,.slice P nduties R] 35 (0,0)):=(ah.o.grown.block _ (by have:=HP.o.size;omega) (fun e=>by rw[F4 cj] at e;cases e;omega)).trans HQ.o
   have ek:∀V:World,Below wr.heap.size wr V->V.frozen? (aV g (i*23+22))=false:=fun V hV=>(Ty.same (ah.o.ty g rfl _ cf) (hV.block g (yu cf.lt ah.o.grown.size))).frozen
   have cv:=SH d0
   have fl:∀b,N b->wr.heap[b]?=w.heap[b]?:=fun b hb=>(ah.o.grown.block b (bk.o _ HP.o b hb) (fun e=>by rw[F4 cj] at e;cases e;have:=HN.o _ hb;omega)).trans (bq.o _ HP.o b hb)
   have ew:∀b,N b->b < wr.drew.heap.size:=fun b hb=>yu (bk.o _ HP.o b hb) ah.o.grown.size
   have dd:=yb (Pl (w:=wr.drew) (cv.same (fun _ h=>h) fl (fun _ _ h=>h)) ew Sz (az.o.turns _ (yJ cj)))
   have b9:Hid (wr.drew.heap[w.heap.size]?=some (.cells #[.string x.name,iV x.season.op,iV x.season.n,iV x.season.u,.string x.season.rn,iV x.season.ri,.slice a0 x.season.args.length p0,iV x.cap.op,iV x.cap.n,iV x.cap.u,.string x.cap.rn,iV x.cap.ri,.slice a1 x.cap.args.length p1,iV x.start.op,iV x.start.n,iV x.start.u,.string x.start.rn,iV x.start.ri,.slice a2 x.start.args.length p2,.slice a6 a7 Z,.slice H F G,.slice l m y,.slice S nfarms T,.slice (some (aV g 0)) nrots Y,.slice I nrights J,.slice P nduties R] 35 (0,0))∧wr.drew.cell? (aV g (i*23+22))=some (.slice (A2 L i).a (A2 L i).n (A2 L i).c)):=yb ⟨ej,fw⟩
   have gt:=yb ek
   have gd:Hid (g < U.heap.size):=yb cf.lt
   have fb:Hid (g < wr.heap.size∧w.heap.size < wr.heap.size):=yb ⟨yu cf.lt ah.o.grown.size,by have:=HP.o.size;have:=ah.o.grown.size;omega⟩
   have ea:=yb cm
   have fo:=yb cj
   have g5:(i:Int) < (nrots:Int):=by omega
   clear g4 cf b4 et d0 cz ej ek cv fl ew cm hz fw
   go_upto_region 6 with fail
   refine wp_region_noPanic ?_
   refine DG (by kernel_rfl) (fun W=>W.heap[w.heap.size]?=some (.cells #[.string x.name,iV x.season.op,iV x.season.n,iV x.season.u,.string x.season.rn,iV x.season.ri,.slice a0 x.season.args.length p0,iV x.cap.op,iV x.cap.n,iV x.cap.u,.string x.cap.rn,iV x.cap.ri,.slice a1 x.cap.args.length p1,iV x.start.op,iV x.start.n,iV x.start.u,.string x.start.rn,iV x.start.ri,.slice a2 x.start.args.length p2,.slice a6 a7 Z,.slice H F G,.slice l m y,.slice S nfarms T,.slice (some (aV g 0)) nrots Y,.slice I nrights J,.slice P nduties R] 35 (0,0))∧W.cell? (aV g (i*23+22))=some (.slice (A2 L i).a (A2 L i).n (A2 L i).c)) 12 ?_
   refine Ah (i:=0) (v:=pV w.heap.size 23) rfl (by kernel_rfl) (by kernel_rfl) (by kernel_rfl) (fun _ _ _ h=>h) (by kernel_rfl) (Or.inl ⟨by rfl,?_⟩) (fun _=>b9.o) ?_
   ·intro w _;go_simp
   refine Bd (i:=1) (v:=.slice (some (aV g 0)) nrots Y) rfl (by kernel_rfl) (by kernel_rfl) (by kernel_rfl) (fun _ _ _ h=>h) (by kernel_rfl) (Or.inl ⟨by rfl,?_⟩) b9.o ?_
   ·rintro W ⟨hW,ey⟩
    have hc:W.cell? (aV w.heap.size 23)=some (.slice (some (aV g 0)) nrots Y):=by simp only[World.cell?,hW];rfl
    clear hW
    go_simp
   refine Ah (i:=2) (v:=iV (i:Int)) rfl (by kernel_rfl) (by kernel_rfl) (by kernel_rfl) (fun _ _ _ h=>h) (by kernel_rfl) (Or.inl ⟨by rfl,?_⟩) (fun _=>b9.o) ?_
   ·intro w _;go_simp
   refine Ah (i:=3) (v:=pV w.heap.size 23) rfl (by kernel_rfl) (by kernel_rfl) (by kernel_rfl) (fun _ _ _ h=>h) (by kernel_rfl) (Or.inl ⟨by rfl,?_⟩) (fun _=>b9.o) ?_
   ·intro w _;go_simp
   refine Bd (i:=4) (v:=.slice (some (aV g 0)) nrots Y) rfl (by kernel_rfl) (by kernel_rfl) (by kernel_rfl) (fun _ _ _ h=>h) (by kernel_rfl) (Or.inl ⟨by rfl,?_⟩) b9.o ?_
   ·rintro W ⟨hW,ey⟩
    have hc:W.cell? (aV w.heap.size 23)=some (.slice (some (aV g 0)) nrots Y):=by simp only[World.cell?,hW];rfl
    clear hW
    go_simp
   refine Ah (i:=5) (v:=iV (i:Int)) rfl (by kernel_rfl) (by kernel_rfl) (by kernel_rfl) (fun _ _ _ h=>h) (by kernel_rfl) (Or.inl ⟨by rfl,?_⟩) (fun _=>b9.o) ?_
   ·intro w _;go_simp
   refine Ah (i:=6) (v:=pV g (i*23)) rfl (by kernel_rfl) (by kernel_rfl) (by kernel_rfl) (fun _ _ _ h=>h) (by kernel_rfl) (Or.inl ⟨by rfl,?_⟩) (fun _=>b9.o) ?_
   ·intro w _;go_simp
   refine Ah (i:=7) (v:=pV g (i*23+22)) rfl (by kernel_rfl) (by kernel_rfl) (by kernel_rfl) (fun _ _ _ h=>h) (by kernel_rfl) (Or.inl ⟨by rfl,?_⟩) (fun _=>b9.o) ?_
   ·intro w _;go_simp
   refine Bd (i:=8) (v:=.slice (A2 L i).a (A2 L i).n (A2 L i).c) rfl (by kernel_rfl) (by kernel_rfl) (by kernel_rfl) (fun _ _ _ h=>h) (by kernel_rfl) (Or.inl ⟨by rfl,?_⟩) b9.o ?_
   ·rintro W ⟨hW,ey⟩
    have hc:W.cell? (aV w.heap.size 23)=some (.slice (some (aV g 0)) nrots Y):=by simp only[World.cell?,hW];rfl
    clear hW
    go_simp
   refine Ak (i:=9) (by kernel_rfl) rfl (fun K hK=>?_)
   go_simp
   refine dd.o.mono ?_
   rintro e V ⟨⟨ta,tn,tc⟩,rfl,du,da,cg⟩
   rw[show As.v ⟨ta,tn,tc⟩=Value.slice ta tn tc from rfl]
   simp only at du cg
   have gn:Hid (Gy wr.heap.size V 158 8 (Fo N w) ⟨ta,tn,tc⟩ (x.rots[i]'fo.o).turns):=yb (Gy.of du (yf _) cg)
   have f3:Hid (Below wr.heap.size wr V):=yb ((yg _ _).drew.trans da)
   have dg:Hid (V.heap[w.heap.size]?=some (.cells #[.string x.name,iV x.season.op,iV x.season.n,iV x.season.u,.string x.season.rn,iV x.season.ri,.slice a0 x.season.args.length p0,iV x.cap.op,iV x.cap.n,iV x.cap.u,.string x.cap.rn,iV x.cap.ri,.slice a1 x.cap.args.length p1,iV x.start.op,iV x.start.n,iV x.start.u,.string x.start.rn,iV x.start.ri,.slice a2 x.start.args.length p2,.slice a6 a7 Z,.slice H F G,.slice l m y,.slice S nfarms T,.slice (some (aV g 0)) nrots Y,.slice I nrights J,.slice P nduties R] 35 (0,0))∧V.cell? (aV g (i*23+22))=some (.slice (A2 L i).a (A2 L i).n (A2 L i).c)):=yb ⟨(da.block _ fb.o.2).trans b9.o.1,(da.cell (p:=(aV g (i*23+22))) fb.o.1).trans b9.o.2⟩
   clear du da cg
   refine hK.o _ _ (fun _=>dg.o) ?_
   clear hK K
   refine Ah (i:=10) (v:=pV g (i*23)) rfl (by kernel_rfl) (by kernel_rfl) (by kernel_rfl) (fun _ _ _ h=>h) (by kernel_rfl) (Or.inl ⟨by rfl,?_⟩) (fun _=>dg.o) ?_
   ·intro w _;go_simp
   refine Ah (i:=11) (v:=pV g (i*23+22)) rfl (by kernel_rfl) (by kernel_rfl) (by kernel_rfl) (fun _ _ _ h=>h) (by kernel_rfl) (Or.inl ⟨by rfl,?_⟩) (fun _=>dg.o) ?_
   ·intro w _;go_simp
   refine Ak (i:=12) (by kernel_rfl) rfl (fun K hK=>?_)
   have hc:=dg.o.2
   have hf:=gt.o V f3.o
   go_simp
   have dt:Hid (Vl U (some (aV g 0)) N w x.rots (hs++[⟨ta,tn,tc⟩]) (V.setCell (aV g (i*23+22)) (.slice ta tn tc))):=yb (by
    obtain rfl:=ea.o
    exact ah.o.next fo.o rfl gd.o f3.o hc gn.o rfl)
   clear hc hf
   generalize V.setCell (aV g (i*23+22)) (.slice ta tn tc)=V2 at*
   refine hK.o _ _ (by intro h;cases h) ?_
   clear hK K
   refine DF (by kernel_rfl) ?_
   refine NoPanic.normal ?_
   go_wp2
   exact ⟨⟨hs++[⟨ta,tn,tc⟩],by simp;have:=ea.o;omega,by simp;have:=ea.o;omega,dt⟩,by simp[intOf];omega⟩
  ·have e9:i=nrots:=by omega
   have g5:decide ((i:Int) < (nrots:Int))=false:=by simp;omega
   have hz:=aa.o
   have ex:=HP.o.size
   have ba:∀b,b < W1.heap.size->some b≠M8 x.rots a8:=fun b hb e=>by
    have h0:=M9 e
    obtain ⟨g,cs,ha,g4,_⟩:=ab.o.2 0 (by rw[zB];exact h0)
    simp only at ha
    rw[ha,F4 h0] at e
    cases e;omega
   have cw:∀b t,Ty U b t->t≠109->some b≠M8 x.rots a8:=fun b t ht cl e=>by
    have h0:=M9 e
    obtain ⟨g,cs,ha,_,cf,_⟩:=ab.o.2 0 (by rw[zB];exact h0)
    simp only at ha
    rw[ha,F4 h0] at e
    cases e
    exact cl (ht.inj cf)
   have ed:∀b,N b->wr.heap[b]?=w.heap[b]?:=fun b hb=>(ah.o.grown.block b (bk.o _ HP.o b hb) (ba b (by have:=HN.o b hb;omega))).trans (bq.o _ HP.o b hb)
   have eb:wr.heap[w.heap.size]?=some (.cells #[.string x.name,iV x.season.op,iV x.season.n,iV x.season.u,.string x.season.rn,iV x.season.ri,.slice a0 x.season.args.length p0,iV x.cap.op,iV x.cap.n,iV x.cap.u,.string x.cap.rn,iV x.cap.ri,.slice a1 x.cap.args.length p1,iV x.start.op,iV x.start.n,iV x.start.u,.string x.start.rn,iV x.start.ri,.slice a2 x.start.args.length p2,.slice a6 a7 Z,.slice H F G,.slice l m y,.slice S nfarms T,.slice a8 nrots Y,.slice I nrights J,.slice P nduties R] 35 (0,0)):=(ah.o.grown.block _ (by omega) (ba _ (by omega))).trans HQ.o
   have f7:wr.heap[w.heap.size+1]?=some (.cells #[.string ⟨#[]⟩,iV 0,iV 0,iV 0,.string ⟨#[]⟩,iV 0,.slice none 0 0,iV 0,iV 0,iV 0,.string ⟨#[]⟩,iV 0,.slice none 0 0,iV 0,iV 0,iV 0,.string ⟨#[]⟩,iV 0,.slice none 0 0,.slice none 0 0,.slice none 0 0,.slice none 0 0,.slice none 0 0,.slice none 0 0,.slice none 0 0,.slice none 0 0] 35 (0,0)):=(ah.o.grown.block _ (by omega) (ba _ (by omega))).trans ((HP.o.block _ (by omega) (fun e=>by simp at e)).trans gl.o)
   have an:∀b t,Ty U b t->t≠109->wr.heap[b]?=U.heap[b]?:=fun b t ht cl=>ah.o.grown.block b ht.lt (cw b t ht cl)
   have de:∀i (h:i < hs.length),A2 (⟨w.heap.size,⟨a6,a7,Z⟩,⟨H,F,G⟩,⟨l,m,y⟩,⟨S,nfarms,T⟩,⟨a8,nrots,Y⟩,⟨I,nrights,J⟩,⟨P,nduties,R⟩,hs⟩:Bq) i=hs[i]:=fun i h=>by unfold A2;simp[h]
   have e5:C8 (fun g=>w.heap.size<=g∧g≠w.heap.size+1) (EV N wr) (RV wr) wr (⟨w.heap.size,⟨a6,a7,Z⟩,⟨H,F,G⟩,⟨l,m,y⟩,⟨S,nfarms,T⟩,⟨a8,nrots,Y⟩,⟨I,nrights,J⟩,⟨P,nduties,R⟩,hs⟩:Bq) x:=by
    refine Pt (B:=W1.heap.size) ed (fun g hg=>by omega) az.o eb HV.o.name gr.o g7.o g8.o (E.o.upT fun b _ ht=>an b _ ht (by decide)) (C.o.upT fun b _ ht=>an b _ ht (by decide)) (A.o.upT fun b _ ht=>an b _ ht (by decide)) (X.o.upT fun b _ ht=>an b _ ht (by decide)) ?_ (ac.o.upT fun b _ ht=>an b _ ht (by decide)) (ae.o.upT fun b _ ht=>an b _ ht (by decide))
    refine SB (L:=L) (L':=(⟨w.heap.size,⟨a6,a7,Z⟩,⟨H,F,G⟩,⟨l,m,y⟩,⟨S,nfarms,T⟩,⟨a8,nrots,Y⟩,⟨I,nrights,J⟩,⟨P,nduties,R⟩,hs⟩:Bq)) ed ab.o (fun g hg=>by omega) az.o.rots az.o.turns (fun g hg ht=>ah.o.ty g hg _ ht) (fun g hg i q hq=>ah.o.cells g hg _ (fun j _=>by omega)) (fun k hk g hg=>?_) (fun k hk=>?_)
    ·have cn:k < hs.length:=by rw[<-cm,e9,db.o];exact hk
     rw[de k cn]
     exact (ah.o.done k cn hk).2 g hg
    ·have cn:k < hs.length:=by rw[<-cm,e9,db.o];exact hk
     rw[de k cn]
     exact Gy.of (ah.o.done k cn hk).1.1 ex (ah.o.done k cn hk).1.2
   have dp:Below w.heap.size w wr:=⟨ah.o.grown.os.trans (HP.o.os.trans d4.o.os),ah.o.grown.tape.trans (HP.o.tape.trans d4.o.tape),ah.o.grown.output.trans (HP.o.output.trans d4.o.output),by have:=ah.o.grown.size;omega,fun b hb=>(ah.o.grown.block b (by omega) (ba b (by omega))).trans ((HP.o.block b (by omega) (fun e=>by cases e;omega)).trans (d4.o.block b hb))⟩
   have fk:∀b,N b->b < w.heap.size∧b < wr.heap.size:=fun b hb=>⟨HN.o b hb,by have:=HN.o b hb;have:=dp.size;omega⟩
   generalize f4:(⟨w.heap.size,⟨a6,a7,Z⟩,⟨H,F,G⟩,⟨l,m,y⟩,⟨S,nfarms,T⟩,⟨a8,nrots,Y⟩,⟨I,nrights,J⟩,⟨P,nduties,R⟩,hs⟩:Bq)=Lc at e5 de
   have fg:Lc.s=w.heap.size:=by rw[<-f4]
   have dn:=yb e5;have d5:=yb dp;have df:=yb fk;have gw:=yb eb;have fv:=yb f7;have bm:=yb fg
   have gi:=yb az.o.exprs
   clear e5 dp fk eb f7 fg f4 de an ed ba cw hz ex e9 cm
   iterate 2
    go_wp2
    refine A9 (A4 ?_)
   have ge:∀(fn:Fn) (first cap:Array Value) (w:World),(Instr.makeFunc fn first cap).run Tryz.prog w=.ok (.func fn first cap) w:=fun _ _ _ _=>rfl
   go_wp2
   refine A9 (A9 (A4 ?_))
   go_wp2_with (first|(go_at_call 72;refine (EH _ _).mono ?_;rintro e w2 ⟨rfl,rfl⟩))
   have dl:Below wr.heap.size wr ((wr.alloc (.cells #[.func (.func 90) #[] #[pV wr.heap.size 0]] 183)).alloc (.cells #[pV w.heap.size 0] 85)):=((yg _ _).alloc (yf _) _).alloc (by simp) _
   have ei:((wr.alloc (.cells #[.func (.func 90) #[] #[pV wr.heap.size 0]] 183)).alloc (.cells #[pV w.heap.size 0] 85)).cell? (aV wr.heap.size 0)=some (.func (.func 90) #[] #[pV wr.heap.size 0]):=by
    refine qb _ ?_
    have:=World.alloc_heap_new wr (.cells #[.func (.func 90) #[] #[pV wr.heap.size 0]] 183)
    simp only[World.cell?,this];simp
   have fz:((wr.alloc (.cells #[.func (.func 90) #[] #[pV wr.heap.size 0]] 183)).alloc (.cells #[pV w.heap.size 0] 85)).cell? (aV (wr.heap.size+1) 0)=some (pV w.heap.size 0):=by
    have:=World.alloc_heap_new (wr.alloc (.cells #[.func (.func 90) #[] #[pV wr.heap.size 0]] 183)) (.cells #[pV w.heap.size 0] 85)
    rw[yY] at this
    simp only[World.cell?,this];simp
   have cd:((wr.alloc (.cells #[.func (.func 90) #[] #[pV wr.heap.size 0]] 183)).alloc (.cells #[pV w.heap.size 0] 85)).heap.size=wr.heap.size+2:=by simp
   generalize (wr.alloc (.cells #[.func (.func 90) #[] #[pV wr.heap.size 0]] 183)).alloc (.cells #[pV w.heap.size 0] 85)=W4 at*
   have d8:=yb dl;have g6:=yb ei;have gg:=yb fz;have d3:=yb cd
   have ec:=dn.o.up (fun b hb=>(df.o b hb).2) dl
   have gs:=d5.o.size
   have d9:w.heap.size+2<=wr.heap.size:=by
    have h1:=(yd.1 fv.o).1
    omega
   have hA:=ec.all2 (by rw[bm.o];exact ⟨yf _,by omega⟩)
   have e4:=dn.o.all2 (by rw[bm.o];exact ⟨yf _,by omega⟩)
   have di:NJ N W4 Lc x:=⟨fun j b o lt hp=>(Hf hA hp).2.1,fun b hb=>⟨by have:=(df.o b hb).2;omega,fun j o lt hp=>by have h1:=(Hf hA hp).1.1;have h2:=(df.o b hb).1;omega⟩,fun j b o lt hp hj=>(Hf hA hp).2.2 hj⟩
   have dk:∀j b o lt,FV Lc j b o lt->w.heap.size<=b∧b < wr.heap.size:=fun j b o lt hp=>⟨(Hf e4 hp).1.1,(Hf e4 hp).2.1.lt⟩
   have fh:=yb ec;have HA:=yb hA;have b5:=yb di;have ci:=yb dk;have e7:=yb d9
   clear dl ei fz cd ec hA e4 di dk gs d9 ge
   refine D4 ?_
   refine CA (n:=10) Tryz.func67 rfl (fun _ _=>rfl) (Kg 9 (by omega) (wr.heap.size+1) Lc dn.o.ok) (fun a ha=>by
     obtain ⟨i,hi,rfl⟩:=zg.1 ha
     obtain ⟨b,o,h1,_⟩:=HA.o.get i hi (by rw[<-HA.o.length];exact hi)
     rw[h1];rfl)
    (NK W4 Lc x) (fun _ _ _=>False) (fun _ _ _=>False)
    (fun k a O W=>NK W4 Lc x k O W∧∃(b o:Nat) (lt:Int),FV Lc k b o lt∧a={tmps:=#[.agg #[.string x.name,iV x.season.op,iV x.season.n,iV x.season.u,.string x.season.rn,iV x.season.ri,.slice a0 x.season.args.length p0,iV x.cap.op,iV x.cap.n,iV x.cap.u,.string x.cap.rn,iV x.cap.ri,.slice a1 x.cap.args.length p1,iV x.start.op,iV x.start.n,iV x.start.u,.string x.start.rn,iV x.start.ri,.slice a2 x.start.args.length p2,.slice L.lets.a L.lets.n L.lets.c,.slice L.crops.a L.crops.n L.crops.c,.slice L.reaches.a L.reaches.n L.reaches.c,.slice L.farms.a L.farms.n L.farms.c,.slice L.rots.a L.rots.n L.rots.c,.slice L.rights.a L.rights.n L.rights.c,.slice L.duties.a L.duties.n L.duties.c],pV w.heap.size 0,pV (w.heap.size+1) 0,u3,pV wr.heap.size 0,pV b o,pV w.heap.size 19,.slice L.lets.a L.lets.n L.lets.c,.slice a6 a7 Z,pV w.heap.size 20,.slice L.crops.a L.crops.n L.crops.c,.slice H F G,pV w.heap.size 21,.slice L.reaches.a L.reaches.n L.reaches.c,.slice l m y,pV w.heap.size 22,.slice L.farms.a L.farms.n L.farms.c,.slice S nfarms T,pV w.heap.size 19,pV w.heap.size 20,pV w.heap.size 21,pV w.heap.size 22,pV w.heap.size 23,.slice L.rots.a L.rots.n L.rots.c,.slice a8 nrots Y,pV w.heap.size 24,.slice L.rights.a L.rights.n L.rights.c,.slice I nrights J,pV w.heap.size 25,.slice L.duties.a L.duties.n L.duties.c,.slice P nduties R,pV w.heap.size 23,pV w.heap.size 24,pV w.heap.size 25,pV w.heap.size 23,.slice a8 nrots Y,iV (nrots:Int),iV (i:Int),.bool false,u39,u40,u41,u42,u43,u44,u45,u46,u47,u48,u49,u50,u51,u52,.func (.func 90) #[] #[pV wr.heap.size 0],.func (.func 92) #[] #[pV (wr.heap.size+1) 0],pV b o,iV lt,undef,undef,undef,undef],defers:=[]})
    NK.stays (fun _ _ _ _ _ _ h=>h.elim) (fun _ _ _ _ _ _ h=>h.elim) ?_ ?_ (fun _ _ _ h=>h.elim) (fun _ h=>by cases h) (NK.start W4 Lc x) ?_ ?_ ?_ (fun _ _ _ _ _ _ h=>h.elim) (fun _ _ _ _ _ _ h=>h.elim)
   ·exact fun a k O W O' W' h hz ho ht hu hk hO=>⟨NK.stays k O W O' W' h.1 hz ho ht hu hk hO,h.2⟩
   ·intro k O W hJ
    refine fh.o.heads (fun b q hq=>by obtain ⟨t,ty,b4⟩:=hq;exact Hg b5.o hJ ty (by rw[b4];decide)) ?_
    rw[bm.o,Ab (hJ.old _ (by have:=d3.o;omega) (fun j o lt _ hp=>by have:=(ci.o j _ o lt hp).2;omega))]
    exact gg.o
   ·intro k hk O W lo hJ hO hl _
    obtain ⟨b,o,lt,hp⟩:=SE HA.o hk
    have he:(BH Lc)[k]=#[pV b o,iV lt]:=by
     unfold FV at hp
     rw[yk hk] at hp
     exact yi hp
    rw[he]
    have dq:=yb hJ;have dv:=yb hp
    clear hJ hO hl hp he
    gi_wp2
    first
    |exact ⟨AO.refl _ _,dq.o,b,o,lt,dv.o,rfl⟩
    |(rename_i hK;exact hK _ _ ⟨AO.refl _ _,dq.o,b,o,lt,dv.o,rfl⟩)
    |(rename_i hK _;exact hK _ _ ⟨AO.refl _ _,dq.o,b,o,lt,dv.o,rfl⟩)
   ·rintro k hk O W lo a1 hl f9 f8 ⟨hJ,b,o,lt,hp,rfl⟩
    have dz:k < (Ay x).length:=by rw[<-HA.o.length];exact hk
    obtain ⟨M,hM,cs,hr,hv⟩:=hJ.read b5.o hp dz
    obtain ⟨t,ht,_⟩:=b5.o.epos k b o lt hp
    have hf:=ci.o k b o lt hp
    have cd:=d3.o
    have bx:W.cell? (aV wr.heap.size 0)=some (.func (.func 90) #[] #[pV wr.heap.size 0]):=(Ab (hJ.old _ (by omega) (fun j o lt _ hp=>by have:=(ci.o j _ o lt hp).2;omega))).trans g6.o
    have fq:=SA M wr.heap.size (Ay x)[k].1 b o t cs W hv hr (hJ.ty b t ht) (gi.o _ (yJ dz)) (fun c hc=>by
     rcases hM c hc with h1|h1
     ·have h2:=(df.o c h1);have h3:=hJ.size;omega
     ·omega) (by omega) bx
    have ga:=yb fq
    have dt:=yb (fun w3=>NK.next (w':=w3) b5.o hJ hp dz f8)
    clear hM hr hv ht hf cd fq hJ hp f8 hl f9
    gi_wp2_with fail
    refine ⟨trivial,zj (CallsIn.inRound lo (yX.2 ga.o)) ?_⟩
    rintro e w3 ⟨rfl,b4⟩
    have em:=yb (dt.o w3 b4)
    clear b4
    gi_wp2_with fail
    first
    |exact ⟨em.o.2,em.o.1⟩
    |fail
   ·rintro - D O W hD fm hJ eo
    simp only[Exit.inBlock,Exit.then]
    have cd:=d3.o
    have d9:=e7.o
    have gh:=hJ.size
    have el:C8 (fun g=>w.heap.size<=g∧g≠w.heap.size+1) (fun _ _ _ _=>True) (RV W) W Lc x:=fh.o.imp (fun b t _ ht=>hJ.ty b t ht) (fun b q _ hq=>by obtain ⟨t,ty,b4⟩:=hq;exact Hg b5.o hJ ty (by rw[b4];decide)) (fun _ _ _ _ _ _ _=>trivial) (fun to r b q _ hq hr=>by
     obtain ⟨t,ty,h1,h2⟩:=hq
     exact ⟨hr.1,(Hg b5.o hJ ty (by rw[h1];decide)).trans hr.2.1,(Hg b5.o hJ ty (by rw[h2];decide)).trans hr.2.2⟩)
    have e8:=el.told (TY (B:=fun b=>w.heap.size+2<=b∧b≠D) HA.o b5.o hJ (fun b hb hO=>⟨by omega,fun e=>hO (e▸fm)⟩))
    have es:C8 (fun g=>w.heap.size<=g∧g≠w.heap.size+1) (EV (fun g=>w.heap.size<=g∧g≠w.heap.size+1) W) (RV W) W Lc x:=e8.imp (fun _ _ _ h=>h) (fun _ _ _ _=>rfl) (fun lt e b o _ _ hE=>by obtain ⟨c,h1,h2⟩:=hE;exact ⟨c,h1,h2.exV (fun b hb _=>by have h3:=hb.1;exact ⟨by omega,by omega⟩)⟩) (fun _ _ _ _ _ _ h=>h)
    obtain ⟨cs,b4,dx,eq⟩:=es.srcV
    rw[bm.o] at dx
    have dj:=MD eq
    have ct:∀j o lt,¬ FV Lc j (w.heap.size+1) o lt:=fun j o lt hp=>(Hf HA.o hp).1.2 rfl
    have fy:W.heap[w.heap.size+1]?=some (.cells #[.string ⟨#[]⟩,iV 0,iV 0,iV 0,.string ⟨#[]⟩,iV 0,.slice none 0 0,iV 0,iV 0,iV 0,.string ⟨#[]⟩,iV 0,.slice none 0 0,iV 0,iV 0,iV 0,.string ⟨#[]⟩,iV 0,.slice none 0 0,.slice none 0 0,.slice none 0 0,.slice none 0 0,.slice none 0 0,.slice none 0 0,.slice none 0 0,.slice none 0 0] 35 (0,0)):=(hJ.old _ (by omega) (fun j o lt _=>ct j o lt)).trans ((d8.o.block _ (by omega)).trans fv.o)
    have eg:Hid ((Tryz.prog.info? 35).map (·.size)=some cs.length):=yb (by rw[b4];kernel_rfl)
    have fd:Hid ((Tryz.prog.info? 35).map (·.size)=some cs.toArray.size):=yb (by rw[yM];exact eg.o)
    have dd:=yb b4;have f2:=yb dx;have dh:=yb dj;have ff:=yb fy;have gc:=yb e8;have ez:=yb eo;have HD:=yb hD;have cy:=yb hJ
    clear el e8 es b4 dx eq dj ct fy eo hD hJ fm cd d9 gh
    refine A9 (A4 ?_)
    go_wp2_with (first|(refine yj rfl 35 _ rfl w.heap.size 0 rfl cs _ f2.o qP rfl eg.o ?_)|(refine za rfl 35 _ _ rfl (w.heap.size+1) cs.toArray rfl rfl 35 _ ff.o fd.o (by simp[dd.o]) (z6 dh.o) ?_))
    refine A4 ?_
    go_wp2
    have cl:D≠w.heap.size+1:=by have:=HD.o;have:=d3.o;have:=e7.o;omega
    have gq:(W.setRow (w.heap.size+1) cs.toArray).heap[D]?=some (.deferred (some [])):=by
     simp only[World.setRow,yL,yq (zX cl)]
     exact ez.o
    have ce:∀ob b,b≠w.heap.size+1->b≠D->((W.setRow (w.heap.size+1) cs.toArray).putObj D ob).heap[b]?=W.heap[b]?:=fun ob b h1 h2=>by
     rw[World.putObj_heap_other h2]
     simp only[World.setRow,yL,yq (zX h1)]
    have gp:∀ob,((W.setRow (w.heap.size+1) cs.toArray).putObj D ob).heap[w.heap.size+1]?=some (.cells cs.toArray 35 (0,0)):=fun ob=>by
     rw[World.putObj_heap_other (zX cl)]
     simp[World.setRow,yL,ff.o]
    have gk:∀ob,((W.setRow (w.heap.size+1) cs.toArray).putObj D ob).rangeAt (w.heap.size+1) 0 cs:=fun ob=>by
     have:=zl (gp ob) 0 cs.length
     simpa using this
    have dm:∀ob,M7 w x (.returned (.agg cs.toArray)) ((W.setRow (w.heap.size+1) cs.toArray).putObj D ob):=fun ob=>by
     have gx:=HD.o
     have cd:=d3.o
     have d9:=e7.o
     have dc:∀b t,b≠w.heap.size+1->Ty W b t->b≠D:=fun b t _ ht e=>by
      obtain ⟨c,hc⟩:=ht
      rw[e,ez.o] at hc
      cases hc
     refine ⟨Lc,cs,rfl,dd.o,dh.o,⟨cy.o.os.trans (d8.o.os.trans d5.o.os),cy.o.tape.trans (d8.o.tape.trans d5.o.tape),cy.o.output.trans (d8.o.output.trans d5.o.output),?_,fun b hb=>?_⟩,bm.o,?_,?_⟩
     ·have h1:=cy.o.size
      have h2:((W.setRow (w.heap.size+1) cs.toArray).putObj D ob).heap.size=W.heap.size:=by simp[World.setRow]
      omega
     ·rw[ce ob b (by omega) (by omega),cy.o.old b (by omega) (fun j o lt _ hp=>by have:=(ci.o j b o lt hp).1;omega),d8.o.block b (by omega)]
      exact d5.o.block b hb
     ·rw[bm.o]
      exact A0 f2.o (ce ob _ (by omega) (by omega))
     ·refine gc.o.imp (fun b t hq ht=>?_) (fun b q hq hp=>?_) (fun lt e b o hq hp hE=>?_) (fun to r b o hq hp hr=>?_)
      ·have h1:b≠w.heap.size+1:=by rcases hq with hq|hq;exact hq.2;have:=bm.o;omega
       exact ht.same (ce ob b h1 (dc b t h1 ht))
      ·have h1:b≠w.heap.size+1:=by rcases hq with hq|hq;exact hq.2;have:=bm.o;omega
       obtain ⟨t,ty,_⟩:=hp
       exact Ab (ce ob b h1 (dc b t h1 ty))
      ·have h1:b≠w.heap.size+1:=by rcases hq with hq|hq;exact hq.2;have:=bm.o;omega
       obtain ⟨t,ty,_⟩:=hp
       obtain ⟨c,c1,c2⟩:=hE
       exact ⟨c,A0 c1 (ce ob b h1 (dc b t h1 ty)),c2.same (fun b hb _=>hb.1) (fun b hb _=>ce ob b (by have:=hb.1;omega) hb.2)⟩
      ·have h1:b≠w.heap.size+1:=by rcases hq with hq|hq;exact hq.2;have:=bm.o;omega
       obtain ⟨t,ty,_⟩:=hp
       have h2:=ce ob b h1 (dc b t h1 ty)
       exact ⟨hr.1,(Ab h2).trans hr.2.1,(Ab h2).trans hr.2.2⟩
    exact ⟨by simp,.inl ⟨_,_,rfl,run_takeDeferred gq,⟨_,MG rfl rfl (run_loadVar_mid _ (w.heap.size+1) 0 35 cs _ (gk _) qP rfl eg.o),dm _⟩⟩⟩
end Go.Proofs.YtjofgpfocadomaaGreatDoor
