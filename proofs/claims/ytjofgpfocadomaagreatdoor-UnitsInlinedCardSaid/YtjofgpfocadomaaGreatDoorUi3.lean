/- Parts of the proof, in short words: Of Og Oh Nh Ni Qa Pa Pb Pc Pd Pg Ph Pi Pj Pk Pf -/
import Derived.Test.YtjofgpfocadomaaGreatDoorUi0
import Derived.Test.YtjofgpfocadomaaGreatDoorUi1
import Derived.Deep.Cut
import Derived.Deep.RegionHeld2
import Derived.StillTailTactics
import Derived.Test.YtjofgpfocadomaaGreatDoorUi2
import Derived.BigFrameIn
import Derived.Lib.SliceRun
import Derived.Deep.RegionHeld3
set_option maxRecDepth 100000
set_option maxHeartbeats 32000000
set_option linter.unusedSimpArgs false
namespace Go.Proofs.YtjofgpfocadomaaGreatDoor
open Go.RowKit
structure UQ (n l By Bi B0:Nat) (O:Nat->Prop) (X:List Us) (w0:World) (C:Addr->Prop) (J:Nat->(Nat->Prop)->World->Prop) (Jx:(Nat->Prop)->World->Prop) (Jp:List PanicEntry->(Nat->Prop)->World->Prop):Prop where
 stays:Ca J
 hd:∀k O W,J k O W->∀p,C p->W.cell? p=w0.cell? p
 hdx:∀O W,Jx O W->∀p,C p->W.cell? p=w0.cell? p
 round:∀k (hk:k < X.length) W,J6 J O B0 l By Bi k W->YieldAt Fence.wide (n - 1) Tryz.prog l X[k].v W (K8 J Jx Jp O (k+1) W)
theorem Pt(n:Nat)(hn:1<=n)(l By Bi B0:Nat)(lt:Int)(hlt:0<=lt∧lt<=1000000)(O:NP)(X:List Us)(w0:World)(C:Addr->Prop)(J:Nat->NP->World->Prop)(Jx:NP->World->Prop)(Jp:List PanicEntry->NP->World->Prop)
 (hc:UQ n l By Bi B0 O X w0 C J Jx Jp):∀(e:Ex) (b o:Nat) (pre:List Us) (W:World),J6 J O B0 l By Bi pre.length W->Rn w0 C e b o->(∃post,X=pre++((BY w0 lt e b o).1++post))->
   ((BY w0 lt e b o).2=false->∀W',J (pre.length+(BY w0 lt e b o).1.length) O W'->Jp (EE 170) O W')->
   Calls Tryz.prog 71 #[.pointer (some ⟨b,o,none⟩),.int .i64 lt,.pointer (some ⟨By,0,none⟩),.pointer (some ⟨Bi,0,none⟩)] W (NO J Jx Jp O (pre.length+(BY w0 lt e b o).1.length) (BY w0 lt e b o).2 W):=by
 refine J3 fun op nn u rn ri args ih=>?_
 intro b o pre W hi hR hX hbad
 rw[Rn] at hR
 obtain ⟨a,cap,⟨c0,C0⟩,⟨c5,C5⟩,hl,hrow⟩:=hR
 have HC:=yb hc
 have HI:=yb hi
 have HX:=yb hX
 have HBad:=yb hbad
 have IH:=yb ih
 have HRow:=yb hrow
 have HC5:=yb C5
 have w0c:=(hc.hd _ _ _ hi.j _ C0).trans c0
 have w5c:=(hc.hd _ _ _ hi.j _ C5).trans c5
 have y0:=hi.y.2
 have H5:=yb c5
 have a0:(W.alloc (.cells #[.pointer (some ⟨b,o+3,none⟩),.int .i64 0,.int .i64 0] 89)).cell? ⟨b,o,none⟩=some (.int .i64 op):=((yg W.heap.size W).alloc (yf _) _).cell (p:=⟨b,o,none⟩) (yQ W _ w0c) |>.trans w0c
 have HE:Hid (BY w0 lt (.mk op nn u rn ri args) b o=if Nv op args.length then (⟨b,o+3,Kd op lt,Nw op lt,rn,ri⟩::(Bv w0 lt args (some (.slice a args.length cap)) 0).1,(Bv w0 lt args (some (.slice a args.length cap)) 0).2) else ([],false)):=yb (by rw[BY,c5])
 generalize hP:BY w0 lt (.mk op nn u rn ri args) b o=P at*
 clear hP
 generalize hm:args.length=m at*
 have Hm:=yb hm
 clear hm hc hi hX hbad ih hrow C0 C5 c0 c5
 by_cases h1:1<=op
 rotate_left
 ·have HF:Hid (P=([],false)):=yb (by rw[HE.o];simp[Nv,h1])
  go_enter Tryz.func71,Tryz.ntmps71
  go_wp2_with (first|(go_at_call 69;refine (Ck _ _).mono ?_;rintro e w5 ⟨rfl,rfl⟩))
  exact ⟨rfl,.inr ⟨_,rfl,HBad.o (by rw[HF.o]) _ (by rw[HF.o];exact HI.o.j),AL.refl _ _⟩⟩
 by_cases h6:op<=6
 rotate_left
 ·have HF:Hid (P=([],false)):=yb (by rw[HE.o];simp[Nv,h6])
  go_enter Tryz.func71,Tryz.ntmps71
  go_wp2_with (first|(go_at_call 69;refine (Ck _ _).mono ?_;rintro e w5 ⟨rfl,rfl⟩))
  exact ⟨rfl,.inr ⟨_,rfl,HBad.o (by rw[HF.o]) _ (by rw[HF.o];exact HI.o.j),AL.refl _ _⟩⟩
 go_enter Tryz.func71,Tryz.ntmps71
 go_upto_if 30 with (first|(go_at_call 69;refine (Cp _ _).mono ?_;rintro e w5 ⟨rfl,rfl⟩))
 go_cut [31] from 22 (fun _ w'=>Hid (Below w5.heap.size w5 w'∧w'.heap[w5.heap.size]?=some (.cells #[.pointer (some ⟨b,o+3,none⟩),.int .i64 (Kd op lt),.int .i64 (Nw op lt)] 89 (0,0))))
 case first=>
  go_wp2
  all_goals
   go_meet
   case rel=>exact yb ⟨(yg _ _).alloc (yf _) _,by rw[World.alloc_heap_new];simp_all[Kd,Nw]<;>omega⟩
 clear a0
 have HBc:=yb hcut.o.1
 have HUc:=yb hcut.o.2
 have b0:=(HBc.o.cell (p:=⟨b,o,none⟩) (yQ w5 _ w0c)).trans w0c
 have b5:=(HBc.o.cell (p:=⟨b,o+5,none⟩) (yQ w5 _ w5c)).trans w5c
 have HIc:=yb (HI.o.below HC.o.stays HBc.o)
 clear hcut w0c w5c
 go_upto_if 42 with fail
 go_cut [31] from 22 (fun _ w'=>Hid (w'=wc∧Nv op m=true))
 case first=>
  by_cases h3:3<=op
  ·by_cases h2:m=2
   ·have hb2:((m:Int)==2)=true:=by simp;omega
    have HOk:Hid (Nv op m=true):=yb (by simp[Nv,h1,h6,h3,h2])
    clear h2
    go_wp2_with (first|(go_at_call 69;refine (Cp _ _).mono ?_;rintro e w6 ⟨rfl,rfl⟩))
    go_meet
    case rel=>exact yb ⟨rfl,HOk.o⟩
   ·have hb2:((m:Int)==2)=false:=by simp;omega
    have HF:Hid (P=([],false)):=yb (by rw[HE.o];simp[Nv,h3,h2])
    clear h2
    go_wp2_with (first|(go_at_call 69;refine (Ck _ _).mono ?_;rintro e w6 ⟨rfl,rfl⟩))
    exact ⟨rfl,.inr ⟨_,rfl,HBad.o (by rw[HF.o]) _ (by rw[HF.o];exact HIc.o.j),HI.o.sameBelow HBc.o⟩⟩
  ·by_cases h2:m=0
   ·have hb2:((m:Int)==0)=true:=by simp;omega
    have HOk:Hid (Nv op m=true):=yb (by simp[Nv,h1,h6,h3,h2])
    clear h2
    go_wp2_with (first|(go_at_call 69;refine (Cp _ _).mono ?_;rintro e w6 ⟨rfl,rfl⟩))
    go_meet
    case rel=>exact yb ⟨rfl,HOk.o⟩
   ·have hb2:((m:Int)==0)=false:=by simp;omega
    have HF:Hid (P=([],false)):=yb (by rw[HE.o];simp[Nv,h3,h2])
    clear h2
    go_wp2_with (first|(go_at_call 69;refine (Ck _ _).mono ?_;rintro e w6 ⟨rfl,rfl⟩))
    exact ⟨rfl,.inr ⟨_,rfl,HBad.o (by rw[HF.o]) _ (by rw[HF.o];exact HIc.o.j),HI.o.sameBelow HBc.o⟩⟩
 obtain ⟨rfl,hok⟩:=hcut.o
 have HP:Hid (P=(⟨b,o+3,Kd op lt,Nw op lt,rn,ri⟩::(Bv w0 lt args (some (.slice a m cap)) 0).1,(Bv w0 lt args (some (.slice a m cap)) 0).2)):=yb (by rw[HE.o,hok];rfl)
 have hk:pre.length < X.length:=by
  obtain ⟨post,hx⟩:=HX.o
  rw[hx,HP.o];simp
 have hxk:X[pre.length].v=#[.agg #[.pointer (some ⟨b,o+3,none⟩),.int .i64 (Kd op lt),.int .i64 (Nw op lt)]]:=by
  obtain ⟨post,hx⟩:=HX.o
  have:X[pre.length]?=some ⟨b,o+3,Kd op lt,Nw op lt,rn,ri⟩:=by rw[hx,HP.o];simp
  rw[yk hk] at this
  rw[yi this];rfl
 obtain ⟨yfn,ytmps,yassign,ybody,hy,hyR⟩:=HC.o.round pre.length hk _ HIc.o
 rw[hxk] at hy
 have HyR:=yb hyR
 have q0:wc.cell? ⟨w5.heap.size,0,none⟩=some (.pointer (some ⟨b,o+3,none⟩)):=by simp[World.cell?,HUc.o]
 have q1:wc.cell? ⟨w5.heap.size,1,none⟩=some (.int .i64 (Kd op lt)):=by simp[World.cell?,HUc.o]
 have q2:wc.cell? ⟨w5.heap.size,2,none⟩=some (.int .i64 (Nw op lt)):=by simp[World.cell?,HUc.o]
 have q3:=HIc.o.y.2
 clear hk hxk hyR hcut hok
 go_upto_region 10 with fail
 refine (qc (n:=n)).1 ?_
 gi_wp2
 refine HyR.o.mono ?_
 rintro e W3 (⟨rfl,hj,hs⟩|⟨rfl,hx,hs⟩|⟨ch,rfl,hp,hs⟩)
 rotate_left
 ·have HX3:=yb hx
  have HS3:=yb ((HI.o.sameBelow HBc.o).trans hs)
  clear hx hs q0 q1 q2 q3 hy b0 b5
  gi_wp2
  go_wp2
  go_ret
  exact .inl ⟨false,rfl,HS3.o,.inr ⟨rfl,HX3.o⟩⟩
 ·exact ⟨rfl,.inr ⟨ch,rfl,hp,(HI.o.sameBelow HBc.o).trans hs⟩⟩
 have HI3:=yb (HIc.o.same hj hs)
 have HS3:=yb ((HI.o.sameBelow HBc.o).trans hs)
 have d5:=(HC.o.hd _ _ _ hj _ HC5.o).trans H5.o
 clear hj hs q0 q1 q2 q3 hy b0 b5
 gi_wp2
 go_wp2
 clear d5
 go_loopw [66] (fun iv wr=>∃i:Nat,iv=.int .i64 i∧i<=m∧Hid (J6 J O B0 l By Bi (pre.length+1+(Bv w0 lt (args.take i) (some (.slice a m cap)) 0).1.length) wr)∧Hid (AL O w5 wr)∧Hid ((Bv w0 lt (args.take i) (some (.slice a m cap)) 0).2=true)) (fun iv _=>m - (intOf iv).toNat)
 case atStart=>exact ⟨0,rfl,yK _,HI3,HS3,yb rfl⟩
 case round=>
  obtain ⟨i,rfl,hi,HIr,HSr,HOr⟩:=hrel
  by_cases hlt:i < m
  ·have hil:i < args.length:=by rw[Hm.o];exact hlt
   obtain ⟨b',o',rfl,hex⟩:=NM HRow.o i hil
   rw[yy] at hex
   have hn1:=Ro hil HOr.o
   have HNx:=yb hn1
   have HXs:Hid (∃post,X=(pre++(⟨b,o+3,Kd op lt,Nw op lt,rn,ri⟩::(Bv w0 lt (args.take i) (some (.slice (some ⟨b',o',none⟩) m cap)) 0).1))++((BY w0 lt args[i] b' (o'+i*6)).1++post)):=yb (by
    obtain ⟨post,hx⟩:=HX.o
    obtain ⟨post2,hp2⟩:=NL (w:=w0) (lt:=lt) (b:=b') (o:=o') (n:=m) (c:=cap) (args.take (i+1)) (args.drop (i+1)) 0
    rw[zS,hn1] at hp2
    refine ⟨post2++post,?_⟩
    rw[hx,HP.o]
    simp only[hp2]
    simp)
   have HBs:Hid ((BY w0 lt args[i] b' (o'+i*6)).2=false->∀W',J ((pre++(⟨b,o+3,Kd op lt,Nw op lt,rn,ri⟩::(Bv w0 lt (args.take i) (some (.slice (some ⟨b',o',none⟩) m cap)) 0).1)).length+(BY w0 lt args[i] b' (o'+i*6)).1.length) O W'->Jp (EE 170) O W'):=yb (fun hf W' hj=>by
    have hst:=M8 (w:=w0) (lt:=lt) (b:=b') (o:=o') (n:=m) (c:=cap) (args.take (i+1)) (args.drop (i+1)) 0 (by rw[hn1];exact hf)
    rw[zS,hn1] at hst
    refine HBad.o (by rw[HP.o];simp only[hst];exact hf) W' ?_
    rw[HP.o]
    simp only[hst]
    have e1:pre.length+(⟨b,o+3,Kd op lt,Nw op lt,rn,ri⟩::((Bv w0 lt (args.take i) (some (.slice (some ⟨b',o',none⟩) m cap)) 0).1++(BY w0 lt args[i] b' (o'+i*6)).1)).length=(pre++(⟨b,o+3,Kd op lt,Nw op lt,rn,ri⟩::(Bv w0 lt (args.take i) (some (.slice (some ⟨b',o',none⟩) m cap)) 0).1)).length+(BY w0 lt args[i] b' (o'+i*6)).1.length:=by simp;omega
    rw[e1];exact hj)
   have HCl:=yb (fun (W:World) (hW:J6 J O B0 l By Bi (pre.length+1+(Bv w0 lt (args.take i) (some (.slice (some ⟨b',o',none⟩) m cap)) 0).1.length) W)=>IH.o args[i] (yM hil) b' (o'+i*6) (pre++(⟨b,o+3,Kd op lt,Nw op lt,rn,ri⟩::(Bv w0 lt (args.take i) (some (.slice (some ⟨b',o',none⟩) m cap)) 0).1)) W (by
    have e1:(pre++(⟨b,o+3,Kd op lt,Nw op lt,rn,ri⟩::(Bv w0 lt (args.take i) (some (.slice (some ⟨b',o',none⟩) m cap)) 0).1)).length=pre.length+1+(Bv w0 lt (args.take i) (some (.slice (some ⟨b',o',none⟩) m cap)) 0).1.length:=by simp;omega
    rw[e1];exact hW) hex HXs.o HBs.o)
   have HNl:Hid ((pre++(⟨b,o+3,Kd op lt,Nw op lt,rn,ri⟩::(Bv w0 lt (args.take i) (some (.slice (some ⟨b',o',none⟩) m cap)) 0).1)).length+(BY w0 lt args[i] b' (o'+i*6)).1.length=pre.length+1+(Bv w0 lt (args.take (i+1)) (some (.slice (some ⟨b',o',none⟩) m cap)) 0).1.length):=yb (by rw[hn1];simp;omega)
   have HNo:Hid ((Bv w0 lt (args.take (i+1)) (some (.slice (some ⟨b',o',none⟩) m cap)) 0).2=(BY w0 lt args[i] b' (o'+i*6)).2):=yb (by rw[hn1])
   have HIr1:=yb (HIr.o.below HC.o.stays ((yg wr.heap.size wr).drew))
   have hki:(i:Int) < (m:Int):=by omega
   have e5:=(HC.o.hd _ _ _ HIr.o.j _ HC5.o).trans H5.o
   have eB:=HIr.o.i.2
   have HS1:Hid (wr.drew.cell? ⟨Bi,0,none⟩=some (.func (.func 71) #[] #[.pointer (some ⟨By,0,none⟩),.pointer (some ⟨Bi,0,none⟩)])∧wr.drew.cell? ⟨b,o+5,none⟩=some (.slice (some ⟨b',o',none⟩) m cap)):=yb ⟨HIr1.o.i.2,(HC.o.hd _ _ _ HIr1.o.j _ HC5.o).trans H5.o⟩
   have HSd:=yb (HSr.o.trans (HIr.o.sameBelow ((yg wr.heap.size wr).drew)))
   clear hn1 hex
   go_wp2_with fail
   go_region_held2 (fun w'=>w'.cell? ⟨Bi,0,none⟩=some (.func (.func 71) #[] #[.pointer (some ⟨By,0,none⟩),.pointer (some ⟨Bi,0,none⟩)])∧w'.cell? ⟨b,o+5,none⟩=some (.slice (some ⟨b',o',none⟩) m cap)) (first|exact HS1.o|exact HS2.o)
    (first|(go_at_call 71;refine (HCl.o _ HIr1.o).mono ?_;rintro e w2 (⟨r,rfl,hs2,hr⟩|⟨ch,rfl,hp,hs2⟩);rotate_left;exact ⟨rfl,.inr ⟨ch,rfl,hp,HSd.o.trans hs2⟩⟩;have HS2:=yb (And.intro (CX hs2 HIr1.o.i.1 HIr1.o.i.2) (hr.elim (fun h=>(HC.o.hd _ _ _ h.2.2 _ HC5.o).trans H5.o) (fun h=>(HC.o.hdx _ _ h.2 _ HC5.o).trans H5.o)));have HR:=yb hr;have HSw:=yb hs2;clear hr hs2))
   rcases HR.o with ⟨rfl,hok2,hj2⟩|⟨rfl,hx2⟩
   ·have HJ2:=yb hj2
    have HO2:=yb hok2
    clear hok2 hj2 HR e5 eB
    go_wp2
    exact ⟨⟨i+1,by push_cast;rfl,by omega,yb (by rw[<-HNl.o];exact HIr1.o.same HJ2.o HSw.o),yb (HSd.o.trans HSw.o),yb (by rw[HNo.o];exact HO2.o)⟩,by simp[intOf];omega⟩
   ·have HX2:=yb hx2
    clear hx2 HR e5 eB
    go_wp2
    go_ret
    exact .inl ⟨false,rfl,HSd.o.trans HSw.o,.inr ⟨rfl,HX2.o⟩⟩
  ·obtain rfl:i=m:=by omega
   have HFin:Hid (P.2=true∧J (pre.length+P.1.length) O wr):=yb (by
    have h1:=HOr.o
    have h2:=HIr.o.j
    rw[<-Hm.o,yT] at h1 h2
    rw[HP.o]
    simp only[yx]
    rw[Hm.o] at h1 h2
    exact ⟨h1,by rw[show pre.length+((Bv w0 lt args (some (.slice a i cap)) 0).1.length+1)=pre.length+1+(Bv w0 lt args (some (.slice a i cap)) 0).1.length by omega];exact h2⟩)
   have hki:decide ((i:Int) < (i:Int))=false:=by simp
   go_wp2
   go_ret
   exact .inl ⟨true,rfl,HSr.o,.inl ⟨rfl,HFin.o.1,HFin.o.2⟩⟩
def Dv(op n u:Int)(rn:ByteArray)(ri:Int)(m:Nat):Bool:=decide (op=0)&&(decide (n=0)&&(decide (u=0)&&(decide (rn.size=0∧ri=0)&&decide (m=0))))
theorem Dw(s:ByteArray):s.size=0↔s.toList=[]:=by
 rw[zP,<-zl,FG]
theorem JD(op nn u:Int)(rn:ByteArray)(ri:Int)(a:Option Addr)(m cap:Nat)(w:World):
  Calls Tryz.prog 73 #[.agg #[.int .i64 op,.int .i64 nn,.int .i64 u,.string rn,.int .i64 ri,.slice a m cap]] w fun e w'=>e=.returned (.bool (Dv op nn u rn ri m))∧Below w.heap.size w w':=by
 by_cases h0:op=0
 ·by_cases h1:nn=0
  ·by_cases h2:u=0
   ·subst h0 h1 h2
    go_enter Tryz.func73,Tryz.ntmps73
    go_wp2
    ·rename_i h1 h2
     go_ret
     refine ⟨AH ?_,(yg _ _).alloc (yf _) _⟩
     simp only[Dv,xm (show rn.size=0∧ri=0 from ⟨(Dw rn).2 h1,h2⟩)]
     rw[xA];simp
    ·rename_i h1 h2
     go_ret
     refine ⟨AH ?_,(yg _ _).alloc (yf _) _⟩
     simp only[Dv,xr (show ¬ (rn.size=0∧ri=0) from fun h=>h2 h.2)]
     simp
    ·rename_i h1
     go_ret
     refine ⟨AH ?_,(yg _ _).alloc (yf _) _⟩
     simp only[Dv,xr (show ¬ (rn.size=0∧ri=0) from fun h=>h1 ((Dw rn).1 h.1))]
     simp
   ·have b:(u==0)=false:=by simpa using h2
    subst h0 h1
    go_enter Tryz.func73,Tryz.ntmps73
    go_wp2
    go_ret
    exact ⟨AH (by simp[Dv,h2]),(yg _ _).alloc (yf _) _⟩
  ·have b:(nn==0)=false:=by simpa using h1
   subst h0
   go_enter Tryz.func73,Tryz.ntmps73
   go_wp2
   go_ret
   exact ⟨AH (by simp[Dv,h1]),(yg _ _).alloc (yf _) _⟩
 ·have b:(op==0)=false:=by simpa using h0
  go_enter Tryz.func73,Tryz.ntmps73
  go_wp2
  go_ret
  exact ⟨AH (by simp[Dv,h0]),(yg _ _).alloc (yf _) _⟩
def BK(w:World)(X:Value)(n size:Nat)(cells:LV):Prop:=
 cells.length=n*size∧(∀u∈cells,u.oneCell'=true)∧∃a cap,X=.slice a n cap∧(n=0∨∃b o,a=some ⟨b,o,none⟩∧b < w.heap.size∧∀j u,cells[j]?=some u->w.cell? ⟨b,o+j,none⟩=some u)
theorem EP{t e:TypeId}{i:TypeInfo}{size:Nat}(f:Tryz.prog.underlying t=some (.slice e))(hi:Tryz.prog.info? e=some i)(w:World)(B:Nat)(ty:TypeId)(v:Value)(n:Nat)(xs:LV)(b:w.ownsRow B e size v n xs)(a:Option Addr)(c:Nat):
  (Builtin.append_ #[t,t] ty #[v,.slice a 0 c]).run Tryz.prog w=.ok v w:=by
 rcases b.2 with ⟨rfl,_⟩|⟨g,cap,j,rfl,_,_,d,h,_⟩
 ·cases a<;>simp[Builtin.append_,qb f,sizeOf,typeInfo,hi,Builtin.lenOf,Builtin.firstCells,loadCells,loadCellsFrom]
 ·cases a<;>simp[Builtin.append_,qb f,sizeOf,typeInfo,hi,Builtin.lenOf,Builtin.firstCells,storeCells,loadCells,loadCellsFrom,d]
theorem Gy{ops:Array Oper}{o:Oper}{a:Act}{K:Act->World->Prop}{Q:QT}{E:Prop}{W:World}{t e:TypeId}{w:TypeInfo}{z:Value}{size d:Nat}(R:Tryz.prog.underlying t=some (.slice e))(hi:Tryz.prog.info? e=some w)(I:w.zero=some z)(F:w.size=size)(O:w.bytes=d)(C:z.cells.size=size)(D:0 < size)(N:d<=64)
 (B:Nat)(J:o.guard=none)(s x:Operand)(V:o.op=.call {callee:=.builtin .append,args:=#[s,x],argTypes:=#[t,t]})(v:Value)(n:Nat)(xs:LV)(hs:a.eval s=v)(f:W.ownsRow B e size v n xs)
 (X:Value)(m:Nat)(A:LV)(U:a.eval x=X)(hX:BK W X m size A)(p:n+m<=1000000)(l:B<=W.heap.size)
 (h:∀(y:Option Addr) (c:Nat) w',w'.ownsRow B e size (.slice y (n+m) c) (n+m) (xs++A)->W.grownBy w' v.ownBlock->K (a.put o.dst (.slice y (n+m) c)) w'):
  if Region.wanted o (yielded ops a.tmps)=true then Oper.wp Tryz.prog o a W K Q else E:=by
 have Y:Region.wanted o (yielded ops a.tmps)=true:=by simp[Region.wanted,J]
 rw[yw Y]
 obtain ⟨q,G,y,cap,rfl,k⟩:=hX
 by_cases T:m=0
 ·subst T
  obtain rfl:A=[]:=zl.1 (by simpa using q)
  have r:=EP R hi W B o.type v n xs f y cap
  obtain ⟨va,H,rfl⟩:∃a c,v=.slice a n c:=by
   rcases f.2 with ⟨rfl,M⟩|⟨g,cap,L,rfl,_⟩
   ·exact ⟨none,0,by rw[M]⟩
   ·exact ⟨_,_,rfl⟩
  unfold Oper.wp
  simp[execOp,V,resolve,invoke,builtin,hs,U,r,Result.andThen]
  have S:=h va H W (by simpa using f) ⟨rfl,rfl,rfl,yf _,fun _ _ _=>rfl⟩
  rw[xZ] at S
  exact S
 ·obtain ⟨b,P,rfl,hb,hc⟩:=k.resolve_left T
  refine wp_append_own W s x t V B e w z size d R hi I F O C D v n xs hs f (aV b P) m cap A U q (fun j u Z=>?_) G (by unfold maxLen;omega) (by
   have:(n+m)*d<=1000000*64:=qt p N
   omega) l ?_
  ·rw[zB];exact hc j u Z
  ·intro v' w' i hg _
   obtain ⟨va,H,rfl⟩:∃a c,v'=.slice a (n+m) c:=by
    rcases i.2 with ⟨rfl,M⟩|⟨g,cap,L,rfl,_⟩
    ·exact ⟨none,0,by rw[M]⟩
    ·exact ⟨_,_,rfl⟩
   exact h va H w' i hg
def AI(u:Us):LV:=[.pointer (some ⟨u.b,u.o,none⟩),.int .i64 u.to,.int .i64 u.at_]
def CF(B:Nat)(w:World)(v:Value)(us:List Us):Prop:=w.ownsRow B 89 3 v us.length (us.flatMap AI)
theorem Rp(B:Nat)(w:World):CF B w (.slice none 0 0) []:=⟨rfl,.inl ⟨rfl,rfl⟩⟩
theorem Cz{ops:Array Oper}{o:Oper}{a:Act}{K:Act->World->Prop}{Q:QT}{E:Prop}{W:World}(B:Nat)(m:o.guard=none)(s x:Operand)(u:o.op=.call {callee:=.builtin .append,args:=#[s,x],argTypes:=#[154,154]})
 (v:Value)(us:List Us)(hs:a.eval s=v)(f:CF B W v us)(X:Value)(b:List Us)(r:a.eval x=X)(q:BK W X b.length 3 (b.flatMap AI))(g:us.length+b.length<=1000000)(d:B<=W.heap.size)
 (h:∀(j:Option Addr) (c:Nat) w',CF B w' (.slice j (us.length+b.length) c) (us++b)->W.grownBy w' v.ownBlock->K (a.put o.dst (.slice j (us.length+b.length) c)) w'):
  if Region.wanted o (yielded ops a.tmps)=true then Oper.wp Tryz.prog o a W K Q else E:=by
 have e:(Tryz.prog.info? 89).map (fun i=>(i.zero,i.size,i.bytes))=some (some (.agg #[.pointer none,iV 0,iV 0]),3,24):=by kernel_rfl
 obtain ⟨w,hi,l,k,n⟩:=info_parts e
 exact Gy Tryz.underlying154 hi l k n rfl (by decide) (by decide) B m s x u v us.length _ hs f X b.length _ r q g d (fun j c w' p t=>h j c w' (by
  unfold CF
  rw[ym,zK]
  exact p) t)
theorem MN{o:Oper}{a:Act}{K:Act->World->Prop}{Q:QT}{W:World}(B:Nat)(g:o.guard=none)(s x:Operand)(m:o.op=.call {callee:=.builtin .append,args:=#[s,x],argTypes:=#[154,154]})
 (v:Value)(us:List Us)(hs:a.eval s=v)(e:CF B W v us)(X:Value)(b:List Us)(l:a.eval x=X)(j:BK W X b.length 3 (b.flatMap AI))(f:us.length+b.length<=1000000)(d:B<=W.heap.size)
 (h:∀(i:Option Addr) (c:Nat) w',CF B w' (.slice i (us.length+b.length) c) (us++b)->W.grownBy w' v.ownBlock->K (a.put o.dst (.slice i (us.length+b.length) c)) w'):Oper.wp Tryz.prog o a W K Q:=by
 have k:=Cz (ops:=#[]) (E:=True) (Q:=Q) B g s x m v us hs e X b l j f d h
 rwa [yw (by simp[Region.wanted,g])] at k
theorem IB:∀us:List Us,(us.flatMap AI).length=us.length*3
 |[]=>rfl
 |x::r=>by rw[yW,ym,IB r,yx];simp only[AI,yx,yH];omega
theorem Gl{w':World}{us:List Us}{b:Nat}(hb:w'.heap[b]?=some (.cells (us.flatMap AI).toArray 89 (0,0)))(c:Nat):BK w' (.slice (some ⟨b,0,none⟩) us.length c) us.length 3 (us.flatMap AI):=by
 refine ⟨?_,?_,some (aV b 0),c,rfl,.inr ⟨b,0,rfl,(yd.1 hb).1,fun j u e=>?_⟩⟩
 ·exact IB us
 ·intro u d
  obtain ⟨x,_,a⟩:=yY.1 d
  simp[AI] at a
  rcases a with rfl|rfl|rfl<;>rfl
 ·simp only[World.cell?,hb]
  simpa using e
def BC:List (List Us × Bool)->List Us × Bool
 |[]=>([],true)
 |x::r=>if x.2 then (x.1++(BC r).1,(BC r).2) else (x.1,false)
theorem EI:∀(l m:List (List Us × Bool)),BC (l++m)=if (BC l).2 then ((BC l).1++(BC m).1,(BC m).2) else BC l
 |[],m=>by simp[BC]
 |x::r,m=>by
  simp only[yP,BC,EI r m]
  by_cases h1:x.2=true
  ·by_cases h2:(BC r).2=true
   ·simp[h1,h2]
   ·simp[h1,h2]
  ·simp[h1]
theorem M9{l:List (List Us × Bool)}{k:Nat}(h:k < l.length)(a:(BC (l.take k)).2=true):BC (l.take (k+1))=((BC (l.take k)).1++l[k].1,l[k].2):=by
 rw[yJ h,EI,a,yw rfl]
 simp only[BC]
 by_cases h1:l[k].2=true
 ·simp[h1]
 ·simp[h1]
theorem SK(l:List (List Us × Bool))(k:Nat):∃post,(BC l).1=(BC (l.take k)).1++post:=by
 have h:=EI (l.take k) (l.drop k)
 rw[zS] at h
 rw[h]
 by_cases h1:(BC (l.take k)).2=true
 ·rw[yw h1];exact ⟨_,rfl⟩
 ·rw[yt h1];exact ⟨[],by simp⟩
theorem Rq{l:List (List Us × Bool)}{k:Nat}(h:(BC (l.take k)).2=false):BC l=BC (l.take k):=by
 have h2:=EI (l.take k) (l.drop k)
 rw[zS,h] at h2
 exact h2
def BA(e:Ex):Bool:=Dv e.op e.n e.u e.rn e.ri e.args.length
def SM(a:Array Value):Addr:=match a.getD 0 undef with
 |.pointer (some p)=>p
 |_=>⟨0,0,none⟩
def Cl(w:World)(a:Array Value)(e:Ks):List Us × Bool:=if BA e.1 then ([],true) else BY w e.2 e.1 (SM a).block (SM a).off
def Dx(w:World)(L:Bt)(x:Av):List (List Us × Bool):=List.zipWith (Cl w) (BJ L) (Ax x)
def CV(a:Addr)(to at_:Int)(r:Rf):Us:=⟨a.block,a.off,to,at_,r.name,r.n⟩
def Ei(h:Au)(l:List CE)(i:Nat):List Us:=match l[i]? with
 |some d=> [CV (h.at 12 i 1) 4 0 d.on,CV (h.at 12 i 10) (if d.river then 0 else 3) 0 d.crop]
 |none=> []
def EY(h:Au)(l:List Cb)(i:Nat):List Us:=match l[i]? with
 |some d=> [CV (h.at 8 i 0) 5 0 d.farm]
 |none=> []
def Gm(L:Bt)(l:List Br)(i:Nat):List Us:=match l[i]? with
 |some d=>CV (L.rots.at 23 i 1) 4 0 d.on::(List.range (A2 L i).n).flatMap (EY (A2 L i) d.turns)
 |none=> []
def CJ(h:Au)(l:List AW)(i:Nat):List Us:=match l[i]? with
 |some d=> [CV (h.at 37 i 2) 5 0 d.farm,CV (h.at 37 i 4) (if d.kind=1 then 0 else 4) 0 d.reach]
 |none=> []
def E2(h:Au)(l:List CU)(i:Nat):List Us:=match l[i]? with
 |some d=> [CV (h.at 11 i 1) 5 0 d.farm,CV (h.at 11 i 3) 4 0 d.reach]
 |none=> []
def GX(k:Int):Bool:=decide (1<=k)&&decide (k<=3)
def BZ(x:Av):Bool:=x.rights.all fun d=>GX d.kind
def Cc(L:Bt)(x:Av):List Us:=
 (((List.range L.farms.n).flatMap (Ei L.farms x.farms)++(List.range L.rots.n).flatMap (Gm L x.rots))++(List.range L.rights.n).flatMap (CJ L.rights x.rights))++(List.range L.duties.n).flatMap (E2 L.duties x.duties)
def En(w:World)(L:Bt)(x:Av):List (List Us × Bool):=Dx w L x++[(if BZ x then Cc L x else [],BZ x)]
def BQ(w:World)(L:Bt)(x:Av):List Us × Bool:=BC (En w L x)
def Vz(N:NP)(w:World)(C D:Addr->Prop)(a:Array Value)(e:Ks):Prop:=
 ∃b o cs,a=#[.pointer (some ⟨b,o,none⟩),.int .i64 e.2]∧w.rangeAt b o cs∧AG N w e.1 cs∧Rn w C e.1 b o∧C ⟨b,o+1,none⟩∧C ⟨b,o+2,none⟩∧C ⟨b,o+3,none⟩∧D ⟨b,o+4,none⟩∧(e.1.op=0->C ⟨b,o+4,none⟩)
structure Ku (N:Nat->Prop) (w:World) (C D:Addr->Prop) (Bu:Nat) (L:Bt) (x:Av):Prop where
 ok:L.Ok
 heads:IA L Bu w
 box:C ⟨Bu,0,none⟩
 src:∀j,19<=j->j<=25->C ⟨L.s,j,none⟩
 turns:∀i,i < L.rots.n->C (L.rots.at 23 i 22)
 river:∀i (h:i < x.farms.length),C (L.farms.at 12 i 3)∧w.cell? (L.farms.at 12 i 3)=some (.bool x.farms[i].river)
 kind:∀i (h:i < x.rights.length),C (L.rights.at 37 i 0)∧w.cell? (L.rights.at 37 i 0)=some (.int .i64 x.rights[i].kind)
 top:AB (Vz N w C D) (BJ L) (Ax x)
 nfarms:L.farms.n=x.farms.length
 nrots:L.rots.n=x.rots.length
 nturns:∀i (h:i < x.rots.length),(A2 L i).n=x.rots[i].turns.length
 nrights:L.rights.n=x.rights.length
 nduties:L.duties.n=x.duties.length
 few:∀e∈Ax x,0<=e.2∧e.2<=1000000
 short:(Cc L x).length<=1000000
def Wg(a:World)(C D:Addr->Prop)(W:World):Prop:=(∀p,C p->W.cell? p=a.cell? p)∧∀p,D p->∃z,W.cell? p=some (.int .i64 z)
theorem ER{N:NP}{w:World}{C D:Addr->Prop}{Bu:Nat}{L:Bt}{x:Av}(h:Ku N w C D Bu L x):(Dx w L x).length=(BJ L).length:=by
 unfold Dx
 rw[List.length_zipWith,<-h.top.length];simp
theorem Kv(n:Nat)(p:1<=n)(Bs:Nat)(L:Bt)(r:L.Ok):U5 Fence.wide n Tryz.prog 92 #[.pointer (some ⟨Bs,0,none⟩)] (IA L Bs) (BJ L) none:=by
 intro l J Jx Jp W j d _ c b _ a h0
 refine (z6.2 (Pu n p l Bs L r J Jx Jp W ⟨j,d,c,b,fun k i O g m q o=>a k i O g m q o⟩ h0)).mono ?_
 rintro e W' (⟨f,h|h⟩|h)
 ·exact .inl ⟨f,.inl ⟨rfl,h⟩⟩
 ·exact .inl ⟨f,.inr h⟩
 ·exact .inr h
theorem ES(s:Nat)(w:World):Calls Tryz.prog 72 #[.pointer (some ⟨s,0,none⟩)] w fun x w'=>x=.returned (.func (.func 92) #[] #[.pointer (some ⟨w.heap.size,0,none⟩)])∧w'=w.alloc (.cells #[.pointer (some ⟨s,0,none⟩)] 85):=by
 have a:∀(fn:Fn) (first cap:Array Value) (w:World),(Instr.makeFunc fn first cap).run Tryz.prog w=.ok (.func fn first cap) w:=fun _ _ _ _=>rfl
 go_enter Tryz.func72,Tryz.ntmps72
 go_wp2
 go_ret
 exact ⟨rfl,rfl⟩
end Go.Proofs.YtjofgpfocadomaaGreatDoor
namespace Go.Proofs.YtjofgpfocadomaaGreatDoor
open Go.RowKit
attribute [local go_sem] Oper.semAt_some
def Kw(x:Av):Bool:=decide (x.lets.length<=64)&&(decide (x.crops.length<=32)&&(decide (x.reaches.length<=64)&&(decide (x.farms.length<=600)&&(decide (x.rots.length<=64)&&(decide (x.rights.length<=256)&&decide (x.duties.length<=256))))))
def FR(l:List Br):Bool:=l.all fun d=>decide (d.turns.length<=64)
def EU(x:Av):Bool:=(Ax x).all fun e=>decide (Ar e.1<=8)
def MO(w:World)(ok:Bool)(e:Ending)(w':World):Prop:=Below w.heap.size w w'∧e=if ok then .returned (.tuple #[]) else .panicked [{v:=.iface 40 (.int .i64 2),recovered:=false}]
def LJ(Bs:Nat)(a:World)(p:NP)(k:Nat)(O:NP)(W:World):Prop:=(∀b,O b->Bs < b)∧Below (Bs+1) a W∧p k
theorem LJ.stays{Bs:Nat}{j:World}{p:NP}(m:j.heap.size=Bs+1):Ca (LJ Bs j p):=by
 intro k O W n W' d f e i c a g
 have hs:=d.2.1.size
 refine ⟨fun b hb=>(g b hb).elim (d.1 b) (fun h=>by omega),d.2.1.trans ⟨e,i,c,f,fun b hb=>a b (fun l=>?_) (by omega)⟩,d.2.2⟩
 have:=d.1 b l
 omega
def Pv(x:Av)(k:Nat):Prop:=∀j (h:j < (Ax x).length),j < k->Ar (Ax x)[j].1<=8
def Wu(N:NP)(s:Nat)(w:World)(x:Av)(k b o:Nat):Prop:=∃(h:k < (Ax x).length) (cs:LV),(b=s∨N b)∧w.rangeAt b o cs∧AG N w (Ax x)[k].1 cs
theorem J7{B:Nat}{a w:World}(h:Below B a w){g:Nat}(c:B<=g)(o:Obj):Below B a (w.putObj g o):=
 h.trans ⟨rfl,rfl,rfl,by simp,fun k b=>World.putObj_heap_other (by omega)⟩
theorem CK{B:Nat}{a w:World}(h:Below B a w){g:Nat}(c:B<=g)(row:Array Value):Below B a (w.setRow g row):=
 h.trans ⟨rfl,rfl,rfl,by simp[World.setRow],fun k b=>by simp[World.setRow,yN,show g≠k by omega]⟩
section
variable{N:NP}{w:World}
theorem MP{e:Ex}{c:LV}(h:AG N w e c):∀v∈c,v.oneCell'=true:=by
 obtain ⟨a,cap,rfl,_⟩:=h.cells
 intro v b
 simp at b
 rcases b with rfl|rfl|rfl|rfl|rfl|rfl<;>rfl
theorem IC{t:Au}{cs:LV}{d:Br}(h:GW N w t cs d):∀v∈cs,v.oneCell'=true:=by
 obtain ⟨_,_,c0,c1,c2,rfl,b,g1,c,_⟩:=h
 intro v a
 simp only[AU,yI,yz,yZ,zH] at a
 rcases a with rfl|(rfl|rfl)|rfl|h|h|h|rfl
 ·rfl
 ·rfl
 ·rfl
 ·rfl
 ·exact MP b v h
 ·exact MP g1 v h
 ·exact MP c v h
 ·rfl
theorem Ma{t:Au}{cs:LV}{d:Br}(h:GW N w t cs d)(_:cs.length=23):cs[22]?=some (.slice t.a t.n t.c):=by
 obtain ⟨_,_,c0,c1,c2,rfl,b,g1,e,_⟩:=h
 obtain ⟨_,_,rfl,_⟩:=b.cells
 obtain ⟨_,_,rfl,_⟩:=g1.cells
 obtain ⟨_,_,rfl,_⟩:=e.cells
 rfl
theorem Pw{t:Au}{cs:LV}{d:Br}(h:GW N w t cs d):t.n=d.turns.length:=by
 obtain ⟨_,_,_,_,_,_,_,_,_,h,_⟩:=h
 exact h
end
def V6(s:Nat)(F:Bool)(w:World)(a:Act)(w2:World):Prop:=w2=w∧∃u6 u7 u8 u9 o X C g h K n E l y S a0 j D k p A u I O Z H m R Q Y a2 z B v V f J x T N M t W c b P e L G i q d r U,a={tmps:=#[.pointer (some ⟨s,0,none⟩),undef,.bool F,undef,undef,undef,u6,u7,u8,u9,o,X,C,g,h,K,n,E,l,y,S,a0,j,D,k,p,A,u,I,O,Z,H,m,R,Q,Y,a2,z,B,v,V,f,J,x,T,N,M,t,W,c,b,P,e,L,G,i,q,d,r,U,undef,undef,undef,undef,undef,undef,undef,undef,undef,undef,undef,undef,undef,undef,undef,undef,undef,undef,undef,undef,undef,undef,undef,undef,undef,undef,undef,undef,undef],defers:=[]}
theorem JE{N:NP}{w:World}{L:Bt}{cs:LV}{x:Av}(h:BH N w L cs x)(hr:w.rangeAt L.s 0 cs)(hN:∀b,N b->b < w.heap.size)(hs:L.s < w.heap.size)(hd:∀e∈Ax x,Ar e.1<=1000000):
  Calls Tryz.prog 44 #[.pointer (some ⟨L.s,0,none⟩)] w (MO w (Kw x&&(FR x.rots&&EU x))):=by
 have HV:=yb h
 have av:=yb hr
 have HN:=yb hN
 have HD:=yb hd
 have Y:=yb (Kt (Bs:=w.heap.size) (h.same (fun b h=>h) (Ek hN ((yg _ _).alloc (yf _) (.cells #[pV L.s 0] 0)))) (A0 hr (((yg _ _).alloc (yf _) (.cells #[pV L.s 0] 0)).block _ hs)) (by
  have:(w.alloc (.cells #[pV L.s 0] 0)).heap[w.heap.size]?=some (.cells #[pV L.s 0] 0 (0,0)):=World.alloc_heap_new _ _
  simp only[World.cell?,this];simp))
 have T:w.cell? (aV L.s 19)=some L.lets.v:=(((yg w.heap.size w).alloc (yf _) (.cells #[pV L.s 0] 0)).cell (p:=(aV L.s 19)) hs).symm.trans Y.o.lets
 have S:w.cell? (aV L.s 20)=some L.crops.v:=(((yg w.heap.size w).alloc (yf _) (.cells #[pV L.s 0] 0)).cell (p:=(aV L.s 20)) hs).symm.trans Y.o.crops
 have K:w.cell? (aV L.s 21)=some L.reaches.v:=(((yg w.heap.size w).alloc (yf _) (.cells #[pV L.s 0] 0)).cell (p:=(aV L.s 21)) hs).symm.trans Y.o.reaches
 have Z:w.cell? (aV L.s 22)=some L.farms.v:=(((yg w.heap.size w).alloc (yf _) (.cells #[pV L.s 0] 0)).cell (p:=(aV L.s 22)) hs).symm.trans Y.o.farms
 have ap:w.cell? (aV L.s 23)=some L.rots.v:=(((yg w.heap.size w).alloc (yf _) (.cells #[pV L.s 0] 0)).cell (p:=(aV L.s 23)) hs).symm.trans Y.o.rots
 have M:w.cell? (aV L.s 24)=some L.rights.v:=(((yg w.heap.size w).alloc (yf _) (.cells #[pV L.s 0] 0)).cell (p:=(aV L.s 24)) hs).symm.trans Y.o.rights
 have V:w.cell? (aV L.s 25)=some L.duties.v:=(((yg w.heap.size w).alloc (yf _) (.cells #[pV L.s 0] 0)).cell (p:=(aV L.s 25)) hs).symm.trans Y.o.duties
 unfold Au.v at T S K Z ap M V
 have n1:=h.lets.1;have n2:=h.crops.1;have n3:=h.reaches.1;have n4:=h.farms.1;have n5:=h.rots.1;have n6:=h.rights.1;have n7:=h.duties.1
 have hF:Kw x=(decide (L.lets.n<=64)&&(decide (L.crops.n<=32)&&(decide (L.reaches.n<=64)&&(decide (L.farms.n<=600)&&(decide (L.rots.n<=64)&&(decide (L.rights.n<=256)&&decide (L.duties.n<=256))))))):=by unfold Kw;rw[n1,n2,n3,n4,n5,n6,n7]
 have HF:=yb hF
 have N5:=yb n5
 clear h hr hN hd Y n1 n2 n3 n4 n5 n6 n7 hF
 refine Ba (n:=10) Tryz.func44 rfl ?_
 simp only[Tryz.ntmps44,yq,yx,yH,Nat.reduceAdd,Nat.reduceSub,zy,zA,zQ,zJ,yS,yP]
 generalize c8:Kw x=F at HF ⊢
 clear c8
 refine A9 (A4 (Code.wp_mono (Q:=Exit.then (V6 L.s F w) (fun _ _ _=>False)) ?_ ?_))
 rotate_left
 ·go_wp2
  all_goals
   first
   |(obtain rfl:F=false:=by rw[HF.o];simp only[Bool.and_eq_false_iff,decide_eq_false_iff_not];omega
     exact ⟨rfl,_,_,_,_,_,_,_,_,_,_,_,_,_,_,_,_,_,_,_,_,_,_,_,_,_,_,_,_,_,_,_,_,_,_,_,_,_,_,_,_,_,_,_,_,_,_,_,_,_,_,_,_,_,_,rfl⟩)
   |(obtain rfl:F=decide ((L.duties.n:Int)<=256):=by rw[HF.o,xA];simp only[yG,z7];omega
     exact ⟨rfl,_,_,_,_,_,_,_,_,_,_,_,_,_,_,_,_,_,_,_,_,_,_,_,_,_,_,_,_,_,_,_,_,_,_,_,_,_,_,_,_,_,_,_,_,_,_,_,_,_,_,_,_,_,_,rfl⟩)
 rintro (_|id|l|_|ch|_) a' w' h
 rotate_left
 ·exact h.elim
 ·exact h.elim
 ·exact h.elim
 ·exact h.elim
 ·exact h.elim
 obtain ⟨rfl,u6,u7,u8,u9,b0,bd,bp,bi,co,cw,az,bq,cp,cc,bx,d1,ax,cd,bk,cr,bo,c9,cf,cy,d0,b9,ay,cj,bv,cl,d2,b7,cv,bm,bz,bh,ba,bn,bw,bb,bu,b5,ck,be,aw,cg,cm,cx,b8,bj,ct,bg,b4,cz,rfl⟩:=h
 clear T S K Z M V
 refine A9 (A4 ?_)
 go_wp2
 go_loopw [2,65] (fun fv iv wr=>∃i:Nat,i<=L.rots.n∧iv=iV i∧fv=.bool (F&&FR (x.rots.take i))∧Hid (Below w'.heap.size w' wr)) (fun _ iv _=>L.rots.n - (intOf iv).toNat)
 case atStart=>exact ⟨0,yK _,rfl,by simp[FR],yb (yg _ _)⟩
 case round=>
  obtain ⟨i,hi,rfl,rfl,u⟩:=hrel
  by_cases cq:i < L.rots.n
  ·have aa:i < x.rots.length:=by rw[<-N5.o];exact cq
   obtain ⟨b,o,f,he,ci,r,E,H⟩:=HV.o.rots.2.2 i aa
   have E:=A0 E (u.o.block b (HN.o b ci))
   have P:=IC H
   have a2:=Ma H r
   have a0:=Pw H
   have ht:FR (x.rots.take (i+1))=(FR (x.rots.take i)&&decide ((A2 L i).n<=64)):=by
    rw[yJ aa]
    unfold FR
    rw[qk,a0]
    simp
   have HT:=yb ht
   have ce:(i:Int) < (L.rots.n:Int):=by omega
   have d4:L.rots.n<=140737488355328:=by have:=HV.o.rots.2.1;have:=N5.o;omega
   have am:=yb E
   have R:=yb (yB P)
   have a6:Hid ((Tryz.prog.info? 109).map (·.size)=some f.length):=yb (by rw[r];kernel_rfl)
   have U:Hid ((Tryz.prog.info? 109).map (·.size)=some f.toArray.size):=yb (by rw[yq];exact a6.o)
   have X:=yb r
   rw[he] at*
   have d8:((wr.alloc (.cells #[.string ⟨#[]⟩,.string ⟨#[]⟩,iV 0,iV 0,iV 0,iV 0,iV 0,.string ⟨#[]⟩,iV 0,.slice none 0 0,iV 0,iV 0,iV 0,.string ⟨#[]⟩,iV 0,.slice none 0 0,iV 0,iV 0,iV 0,.string ⟨#[]⟩,iV 0,.slice none 0 0,.slice none 0 0] 109)).setRow wr.heap.size f.toArray).cell? (aV wr.heap.size 22)=some (.slice (A2 L i).a (A2 L i).n (A2 L i).c):=by
    have bt:(wr.alloc (.cells #[.string ⟨#[]⟩,.string ⟨#[]⟩,iV 0,iV 0,iV 0,iV 0,iV 0,.string ⟨#[]⟩,iV 0,.slice none 0 0,iV 0,iV 0,iV 0,.string ⟨#[]⟩,iV 0,.slice none 0 0,iV 0,iV 0,iV 0,.string ⟨#[]⟩,iV 0,.slice none 0 0,.slice none 0 0] 109)).heap[wr.heap.size]?=some (.cells #[.string ⟨#[]⟩,.string ⟨#[]⟩,iV 0,iV 0,iV 0,iV 0,iV 0,.string ⟨#[]⟩,iV 0,.slice none 0 0,iV 0,iV 0,iV 0,.string ⟨#[]⟩,iV 0,.slice none 0 0,iV 0,iV 0,iV 0,.string ⟨#[]⟩,iV 0,.slice none 0 0,.slice none 0 0] 109 (0,0)):=World.alloc_heap_new _ _
    simp only[World.cell?,World.setRow,yN,bt]
    simp[a2]
   clear E a0 ht r he P H
   generalize FR (x.rots.take i)=G at HT ⊢
   cases ab:(F&&G) with
   |false=>
    go_wp2_with (first|(refine yj rfl 109 _ rfl b (o+i*23) rfl f _ am.o qE rfl a6.o ?_)|(refine zb rfl 109 _ _ rfl wr.heap.size f.toArray rfl rfl 109 _ (World.alloc_heap_new _ _) U.o (by simp[X.o]) R.o ?_))
    refine ⟨⟨i+1,by omega,by push_cast;rfl,by rw[HT.o];revert ab;cases F<;>cases G<;>simp<;>omega,yb (CK (u.o.alloc u.o.size _) u.o.size _)⟩,by simp[intOf];omega⟩
   |true=>
    go_wp2_with (first|(refine yj rfl 109 _ rfl b (o+i*23) rfl f _ am.o qE rfl a6.o ?_)|(refine zb rfl 109 _ _ rfl wr.heap.size f.toArray rfl rfl 109 _ (World.alloc_heap_new _ _) U.o (by simp[X.o]) R.o ?_))
    refine ⟨⟨i+1,by omega,by push_cast;rfl,by rw[HT.o];revert ab;cases F<;>cases G<;>simp<;>omega,yb (CK (u.o.alloc u.o.size _) u.o.size _)⟩,by simp[intOf];omega⟩
  ·obtain rfl:i=L.rots.n:=by omega
   have ce:decide ((L.rots.n:Int) < (L.rots.n:Int))=false:=by simp
   have ah:x.rots.take L.rots.n=x.rots:=by rw[N5.o];exact yT
   rw[ah]
   clear ah
   go_wp2
   cases ae:(F&&FR x.rots) with
   |false=>
    have g:(F&&(FR x.rots&&EU x))=false:=by rw[<-Bool.and_assoc,ae];rfl
    rw[g]
    clear g
    refine A9 (A4 ?_)
    go_wp2_with (first|(go_at_call 69;refine (Ck _ _).mono ?_;rintro e w2 ⟨rfl,rfl⟩))
    exact ⟨u.o,rfl⟩
   |true=>
    have g:(F&&(FR x.rots&&EU x))=EU x:=by rw[<-Bool.and_assoc,ae];rfl
    rw[g]
    clear g
    refine A9 (A4 ?_)
    go_wp2_with (first|(go_at_call 69;refine (Cp _ _).mono ?_;rintro e w2 ⟨rfl,rfl⟩))
    refine A9 (A4 ?_)
    go_wp2_with (first|(go_at_call 72;refine (ES _ _).mono ?_;rintro e w2 ⟨rfl,rfl⟩))
    refine D7 ?_
    have HE:=yb (Io HV.o av.o)
    have A:Below w'.heap.size w' (w2.alloc (.cells #[pV L.s 0] 85)):=u.o.alloc u.o.size _
    have cu:=yb A
    have J:(w2.alloc (.cells #[pV L.s 0] 85)).cell? (aV w2.heap.size 0)=some (pV L.s 0):=by
     have:(w2.alloc (.cells #[pV L.s 0] 85)).heap[w2.heap.size]?=some (.cells #[pV L.s 0] 85 (0,0)):=World.alloc_heap_new _ _
     simp only[World.cell?,this];simp
    have au:(w2.alloc (.cells #[pV L.s 0] 85)).heap.size=w2.heap.size+1:=by simp
    have af:=yb J
    have y:=yb au
    clear J au A
    have an:∀W,Below (w2.heap.size+1) (w2.alloc (.cells #[pV L.s 0] 85)) W->Below w'.heap.size w' W:=fun W hW=>cu.o.trans (hW.mono (Nat.le_succ_of_le u.o.size))
    have q:=yb an
    clear an
    have aj:Hid (w'.heap.size<=w2.heap.size):=yb u.o.size
    clear u
    generalize d7:w2.alloc (.cells #[pV L.s 0] 85)=W1 at*
    refine CC (n:=10) Tryz.func44 rfl (fun _ _=>rfl) (Kv 9 (by omega) w2.heap.size L HV.o.ok) (fun a ha=>by
      obtain ⟨i,hi,rfl⟩:=zh.1 ha
      obtain ⟨b,o,c,h1,_⟩:=HE.o.get i hi (by rw[<-HE.o.length];exact hi)
      rw[h1];rfl)
     (LJ w2.heap.size W1 (Pv x)) (fun _ _ _=>False) (fun ch=>LJ w2.heap.size W1 (fun _=>ch=[{v:=.iface 40 (iV 2),recovered:=false}]∧EU x=false) 0)
     (fun k a=>(LJ w2.heap.size W1 fun k=>Pv x k∧∃b o lt,Wu N L.s w' x k b o∧a={tmps:=#[pV L.s 0,undef,.bool true,undef,u4,pV b o,u6,u7,u8,u9,b0,bd,bp,bi,co,cw,az,bq,cp,cc,bx,d1,ax,cd,bk,cr,bo,c9,cf,cy,d0,b9,ay,cj,bv,cl,d2,b7,cv,bm,bz,bh,ba,bn,bw,bb,bu,b5,ck,be,aw,cg,cm,cx,b8,bj,ct,bg,b4,cz,pV L.s 0,pV L.s 0,pV L.s 23,.slice L.rots.a L.rots.n L.rots.c,iV L.rots.n,iV L.rots.n,.bool false,u67,u68,u69,u70,u71,u72,u73,u74,u75,u76,.bool true,.tuple #[],pV L.s 0,.func (.func 92) #[] #[pV w2.heap.size 0],pV b o,iV lt,undef,undef,undef,undef,undef,undef],defers:=[]}) k) ?_ (fun _ _ _ _ _ _ h=>h.elim) (fun _ _ O W O' W' h=>LJ.stays y.o 0 O W O' W' h) ?_ ?_ (fun _ _ _ h=>h.elim) (fun _ h=>by cases h) ?_ ?_ ?_ ?_ (fun _ _ _ _ _ _ h=>h.elim) ?_
    ·exact LJ.stays y.o
    ·exact fun a=>LJ.stays y.o
    ·rintro k O W ⟨hO,hb,hp⟩
     exact Kt (HV.o.same (fun b h=>h) (Ek HN.o (q.o W hb))) (A0 av.o ((q.o W hb).block _ hs)) ((hb.cell (p:=(aV w2.heap.size 0)) (xQ _)).trans af.o)
    ·exact ⟨fun _ h=>h.elim,yg _ _,fun j _ I=>absurd I (by omega)⟩
    ·intro k hk O W l I hO hl _
     obtain ⟨b,o,f,h1,h2,h3,h4⟩:=HE.o.get k hk (by rw[<-HE.o.length];exact hk)
     have B:k < (Ax x).length:=by rw[<-HE.o.length];exact hk
     rw[h1]
     generalize (Ax x)[k].2=lt
     have C:=yb I
     have HP:Hid (Wu N L.s w' x k b o):=yb ⟨B,f,h2,h3,h4⟩
     clear I hO hl h1 h2 h3 h4
     gi_wp2
     first
     |exact ⟨AL.refl _ _,C.o.1,C.o.2.1,C.o.2.2,b,o,lt,HP.o,rfl⟩
     |(rename_i hK;exact hK _ _ ⟨AL.refl _ _,C.o.1,C.o.2.1,C.o.2.2,b,o,lt,HP.o,rfl⟩)
     |(rename_i hK _;exact hK _ _ ⟨AL.refl _ _,C.o.1,C.o.2.1,C.o.2.2,b,o,lt,HP.o,rfl⟩)
     |fail
    ·rintro k hk O W l a1 hl ao ag ⟨hO,hb,hd,b,o,lt,⟨B,f,h1,h2,h3⟩,rfl⟩
     obtain ⟨ea,d3,rfl,e1,e2,e3⟩:=h3.cells
     have ac:b < w'.heap.size:=by
      rcases h1 with rfl|h1
      ·exact hs
      ·exact HN.o b h1
     obtain ⟨c0,c1,c2,c3,c4,c5⟩:=Bp (A0 h2 ((q.o W hb).block b ac))
     have hw:AG N W (Ax x)[k].1 _:=h3.same (fun b h=>h) (Ek HN.o (q.o W hb))
     have t:=yb (Ri (Ax x)[k].1 hw (fun b A=>yv (HN.o b A) (q.o W hb).size) (HD.o _ (yM B)))
     have HO:=yb hO
     have ak:=yb ag
     have ar:=y.o
     have aq:Hid (w2.heap.size+1<=W.heap.size):=yb (by rw[<-ar];exact hb.size)
     clear ar
     have ai:=yb hb
     have cn:=yb hd
     have HK:=yb B
     have hX:Hid (∀d,d=Ar (Ax x)[k].1->(d<=8->Pv x (k+1))∧(8 < d->EU x=false)):=yb fun d d6=>by
      refine ⟨fun h j I d5=>?_,fun h=>?_⟩
      ·rcases zU j k with h9|h9
       ·exact cn.o j I h9
       ·obtain rfl:j=k:=by omega
        omega
      ·unfold EU
       rw[xq]
       exact ⟨_,yM HK.o,by simp;omega⟩
     clear ag hw hO hb hd hl ao h2 h3 e1 e2 e3 h1 ac
     by_cases h8:Ar (Ax x)[k].1<=8
     ·have HT:=yb ((hX.o _ rfl).1 h8)
      have z:decide ((Ar (Ax x)[k].1:Int)<=8)=true:=by simp;omega
      clear h8 hX
      generalize Ar (Ax x)[k].1=dd at t z
      gi_wp2_with fail
      refine ⟨trivial,zm (CallsIn.inRound l (z6.2 t.o)) ?_⟩
      rintro e w3 ⟨rfl,m⟩
      gi_wp2_with fail
      refine ⟨trivial,zm (CallsIn.inRound l (z6.2 (Cp _ _))) ?_⟩
      rintro e w4 ⟨rfl,rfl⟩
      try gi_wp2_with fail
      exact ⟨⟨m.size,fun b hb=>m.block b (ak.o b hb)⟩,HO.o,ai.o.trans (m.mono aq.o),HT.o⟩
     ·have HT:=yb ((hX.o _ rfl).2 (by omega))
      have z:decide ((Ar (Ax x)[k].1:Int)<=8)=false:=by simp;omega
      clear h8 hX
      generalize Ar (Ax x)[k].1=dd at t z
      gi_wp2_with fail
      refine ⟨trivial,zm (CallsIn.inRound l (z6.2 t.o)) ?_⟩
      rintro e w3 ⟨rfl,m⟩
      gi_wp2_with fail
      refine ⟨trivial,zm (CallsIn.inRound l (z6.2 (Ck _ _))) ?_⟩
      rintro e w4 ⟨rfl,rfl⟩
      try gi_wp2_with fail
      exact ⟨rfl,⟨m.size,fun b hb=>m.block b (ak.o b hb)⟩,HO.o,ai.o.trans (m.mono aq.o),rfl,HT.o⟩
    ·rintro - D O W hD - I a7
     have a8:EU x=true:=by
      unfold EU
      rw[yR]
      intro e he
      obtain ⟨j,ad,rfl⟩:=zh.1 he
      simp only[z7]
      exact I.2.2 j ad (by rw[HE.o.length];exact ad)
     rw[a8]
     exact ⟨by simp,.inl ⟨_,_,rfl,run_takeDeferred a7,⟨_,zq rfl _ _ _,J7 (q.o W I.2.1) (by have:=y.o;have:=aj.o;omega) _,rfl⟩⟩⟩
    ·rintro D ch O W hD - ⟨-,hb,rfl,hd⟩ a7
     rw[hd]
     exact ⟨by simp,.inl ⟨_,_,rfl,run_takeDeferred a7,⟨J7 (q.o W hb) (by have:=y.o;have:=aj.o;omega) _,rfl⟩⟩⟩
end Go.Proofs.YtjofgpfocadomaaGreatDoor
namespace Go.Proofs.YtjofgpfocadomaaGreatDoor
open Go.RowKit
theorem FW{W:World}{b o m i:Nat}{s:ByteArray}{z most:Int}{a:LB}(h0:W.cell? ⟨b,o,none⟩=some (.string s))(h1:W.cell? ⟨b,o+1,none⟩=some (.int .i64 z))(h:W.frozen? ⟨b,o+1,none⟩=false)(f:BR W m a)(hs:s.size<=maxLen)(d:CG a s=some i)(hi:(i:Int) < most):
  Calls Tryz.prog 68 #[.pointer (some ⟨b,o,none⟩),.map (some m),.int .i64 most] W fun e w'=>e=.returned (.tuple #[])∧w'=W.setCell ⟨b,o+1,none⟩ (.int .i64 (i:Int)):=by
 have c:=f.look s hs
 simp only[I9,d] at c
 have j:=yb d
 clear d f
 go_enter Tryz.func68,Tryz.ntmps68
 go_wp2_with (first|(go_at_call 69;refine (Cp _ _).mono ?_;rintro e g ⟨rfl,rfl⟩))
 go_end0
 exact ⟨rfl,rfl⟩
theorem Ho{W:World}{b o m:Nat}{s:ByteArray}{most:Int}{c:LB}(h0:W.cell? ⟨b,o,none⟩=some (.string s))(g:BR W m c)(hs:s.size<=maxLen)(f:∀i,CG c s=some i->¬ (i:Int) < most):
  Calls Tryz.prog 68 #[.pointer (some ⟨b,o,none⟩),.map (some m),.int .i64 most] W fun e w'=>e=.panicked (EE 170)∧w'=W:=by
 have d:=g.look s hs
 cases a:CG c s with
 |none=>
  simp only[I9,a] at d
  have k:=yb f;have j:=yb a
  clear f g a
  go_enter Tryz.func68,Tryz.ntmps68
  go_wp2_with (first|(go_at_call 69;refine (Ck _ _).mono ?_;rintro e h ⟨rfl,rfl⟩))
  exact ⟨rfl,rfl,rfl⟩
 |some i=>
  have hi:=f i a
  simp only[I9,a] at d
  have j:=yb a
  clear f g a
  go_enter Tryz.func68,Tryz.ntmps68
  go_wp2_with (first|(go_at_call 69;refine (Ck _ _).mono ?_;rintro e h ⟨rfl,rfl⟩))
  exact ⟨rfl,rfl,rfl⟩
def Ty(w:World)(b t:Nat):Prop:=∃c,w.heap[b]?=some (.cells c t (0,0))
theorem Ty.inj{w:World}{b t d:Nat}(h:Ty w b t)(f:Ty w b d):t=d:=by
 obtain ⟨c,e⟩:=h
 obtain ⟨g,a⟩:=f
 rw[e] at a
 cases a;rfl
theorem Ty.lt{w:World}{b t:Nat}(h:Ty w b t):b < w.heap.size:=by
 obtain ⟨c,e⟩:=h
 exact (yd.1 e).1
def Fu(t o:Nat):Nat:=
 if t=35 then (if o=0 then 0 else if o < 19 then 1 else 0)
 else if t=50 then (if o % 7=0 then 0 else 1)
 else if t=92 then (if o % 7=0 then 0 else 1)
 else if t=66 then (if o % 51 < 2 then 0 else if o % 51=2 then 2 else 1)
 else if t=94 then (if o % 12=2 then 2 else if o % 12=11 then 2 else if o % 12 < 4 then 0 else if o % 12=10 then 0 else 1)
 else if t=109 then (if o % 23=2 then 2 else if o % 23 < 4 then 0 else if o % 23=22 then 0 else 1)
 else if t=158 then (if o % 8=0 then 0 else if o % 8=1 then 2 else 1)
 else if t=131 then (if o % 37=3 then 2 else if o % 37=5 then 2 else if o % 37 < 7 then 0 else 1)
 else if t=135 then (if o % 11=2 then 2 else if o % 11=4 then 2 else if o % 11 < 5 then 0 else 1)
 else 1
def FX(t o:Nat):Nat:=
 if t=35 then (o+5) % 6
 else if t=50 then (o % 7+5) % 6
 else if t=92 then (o % 7+5) % 6
 else if t=66 then (o % 51+3) % 6
 else if t=94 then (o % 12+2) % 6
 else if t=109 then (o % 23+2) % 6
 else if t=158 then (o % 8+4) % 6
 else if t=131 then (o % 37+5) % 6
 else if t=135 then (o % 11+1) % 6
 else o % 6
def Gp(w:World)(b o:Nat):Prop:=∃t,Ty w b t∧∀j,j < 6->Fu t (o+j)=1∧FX t (o+j)=j
theorem Gp.uniq{w:World}{b o e j j':Nat}(h:Gp w b o)(g:Gp w b e)(i:j < 6)(a:j' < 6)(f:o+j=e+j'):j=j'∧o=e:=by
 obtain ⟨t,h1,h2⟩:=h
 obtain ⟨m,d,c⟩:=g
 obtain rfl:=h1.inj d
 have l:=(h2 j i).2
 have k:=(c j' a).2
 rw[f,k] at l
 omega
def PA(w:World)(b o:Nat):Prop:=∃t,Ty w b t∧Fu t o=0∧Fu t (o+1)=2
def NV(w:World)(b o:Nat):Prop:=∃t,Ty w b t∧Fu t o=0
def Ej{α:Type}(N:NP)(w:World)(t sz:Nat)(P:Nat->Nat->Nat->α->Prop)(h:Au)(l:List α):Prop:=
 h.n=l.length∧l.length<=140737488355328∧∀i (hi:i < l.length),∃g,h.a=some ⟨g,0,none⟩∧N g∧Ty w g t∧P i g (i*sz) l[i]
theorem Ej.ok{α:Type}{N:NP}{w:World}{t sz:Nat}{P:Nat->Nat->Nat->α->Prop}{h:Au}{l:List α}(hr:Ej N w t sz P h l):h.ok:=by
 obtain ⟨h1,h2,h3⟩:=hr
 refine ⟨by omega,fun a=>?_⟩
 obtain ⟨g,g1,_⟩:=h3 0 (by omega)
 exact ⟨g,0,g1⟩
theorem Ej.map{α:Type}{N:NP}{w w':World}{t sz:Nat}{P e:Nat->Nat->Nat->α->Prop}{h:Au}{l:List α}{f:Nat->α->α}(hr:Ej N w t sz P h l)(k:∀b,N b->Ty w b t->Ty w' b t)(j:∀i g d,N g->Ty w g t->P i g (i*sz) d->e i g (i*sz) (f i d)):Ej N w' t sz e h (l.mapIdx f):=by
 obtain ⟨h1,h2,h3⟩:=hr
 refine ⟨by rw[List.length_mapIdx];exact h1,by rw[List.length_mapIdx];exact h2,fun i hi=>?_⟩
 rw[List.length_mapIdx] at hi
 obtain ⟨g,g1,a,c,m⟩:=h3 i hi
 refine ⟨g,g1,a,k g a c,?_⟩
 rw[List.getElem_mapIdx]
 exact j i g _ a c m
section
variable(N:NP)(E:Int->Ex->Nat->Nat->Prop)(R:Int->Rf->Nat->Nat->Prop)(w:World)
def KE(s:ByteArray)(g o:Nat):Prop:=s.size<=maxLen∧w.cell? ⟨g,o,none⟩=some (.string s)
def VA(i g o:Nat)(d:Gh):Prop:=KE w d.name g o∧E (1+(i:Int)) d.value g (o+1)
def US(_ g o:Nat)(d:DN):Prop:=KE w d.name g o∧E 0 d.need g (o+1)
def SQ(i g o:Nat)(d:AA):Prop:=KE w d.name g o∧R (if i=0 then 0 else 6) d.frm g (o+1)∧E 0 d.delay g (o+3)∧E 0 d.cap g (o+9)∧E 0 d.bank g (o+15)∧E 0 d.siphon g (o+21)∧E 0 d.evap0 g (o+27)∧E 0 d.evap1 g (o+33)∧E 0 d.seep0 g (o+39)∧E 0 d.seep1 g (o+45)
def UT(_ g o:Nat)(d:CE):Prop:=KE w d.name g o∧R 4 d.on g (o+1)∧w.cell? ⟨g,o+3,none⟩=some (.bool d.river)∧E 0 d.area g (o+4)∧R (if d.river then 0 else 3) d.crop g (o+10)
def UU(_ g o:Nat)(d:Cb):Prop:=R 5 d.farm g o∧E 0 d.len g (o+2)
def V7(h:Nat->Au)(i g o:Nat)(d:Br):Prop:=KE w d.name g o∧R 4 d.on g (o+1)∧w.cell? ⟨g,o+3,none⟩=some (.int .i64 d.rank)∧E 0 d.flow g (o+4)∧E 0 d.frm g (o+10)∧E 0 d.to g (o+16)∧w.cell? ⟨g,o+22,none⟩=some (h i).v∧Ej N w 158 8 (UU E R) (h i) d.turns
def SS(_ g o:Nat)(d:AW):Prop:=w.cell? ⟨g,o,none⟩=some (.int .i64 d.kind)∧KE w d.name g (o+1)∧R 5 d.farm g (o+2)∧R (if d.kind=1 then 0 else 4) d.reach g (o+4)∧w.cell? ⟨g,o+6,none⟩=some (.int .i64 d.rank)∧E 0 d.flow g (o+7)∧E 0 d.frm g (o+13)∧E 0 d.to g (o+19)∧E 0 d.every g (o+25)∧E 0 d.len g (o+31)
def UW(_ g o:Nat)(d:CU):Prop:=KE w d.name g o∧R 5 d.farm g (o+1)∧R 4 d.reach g (o+3)∧E 0 d.due g (o+5)
structure C8 (L:Bt) (x:Av):Prop where
 ty:Ty w L.s 35
 name:KE w x.name L.s 0
 season:E 0 x.season L.s 1
 cap:E 0 x.cap L.s 7
 start:E 0 x.start L.s 13
 hlets:w.cell? ⟨L.s,19,none⟩=some L.lets.v
 hcrops:w.cell? ⟨L.s,20,none⟩=some L.crops.v
 hreaches:w.cell? ⟨L.s,21,none⟩=some L.reaches.v
 hfarms:w.cell? ⟨L.s,22,none⟩=some L.farms.v
 hrots:w.cell? ⟨L.s,23,none⟩=some L.rots.v
 hrights:w.cell? ⟨L.s,24,none⟩=some L.rights.v
 hduties:w.cell? ⟨L.s,25,none⟩=some L.duties.v
 lets:Ej N w 50 7 (VA E w) L.lets x.lets
 crops:Ej N w 92 7 (US E w) L.crops x.crops
 reaches:Ej N w 66 51 (SQ E R w) L.reaches x.reaches
 farms:Ej N w 94 12 (UT E R w) L.farms x.farms
 rots:Ej N w 109 23 (V7 N E R w (A2 L)) L.rots x.rots
 rights:Ej N w 131 37 (SS E R w) L.rights x.rights
 duties:Ej N w 135 11 (UW E R w) L.duties x.duties
end
section
variable(f:Int->Ex->Ex)(g:Int->Rf->Rf)
def Gh.mp(i:Nat)(d:Gh):Gh:={d with value:=f (1+(i:Int)) d.value}
def DN.mp(_:Nat)(d:DN):DN:={d with need:=f 0 d.need}
def AA.mp(i:Nat)(d:AA):AA:={d with frm:=g (if i=0 then 0 else 6) d.frm,delay:=f 0 d.delay,cap:=f 0 d.cap,bank:=f 0 d.bank,siphon:=f 0 d.siphon,evap0:=f 0 d.evap0,evap1:=f 0 d.evap1,seep0:=f 0 d.seep0,seep1:=f 0 d.seep1}
def CE.mp(_:Nat)(d:CE):CE:={d with on:=g 4 d.on,area:=f 0 d.area,crop:=g (if d.river then 0 else 3) d.crop}
def Cb.mp(_:Nat)(d:Cb):Cb:={farm:=g 5 d.farm,len:=f 0 d.len}
def Br.mp(_:Nat)(d:Br):Br:={d with on:=g 4 d.on,flow:=f 0 d.flow,frm:=f 0 d.frm,to:=f 0 d.to,turns:=d.turns.mapIdx (Cb.mp f g)}
def AW.mp(_:Nat)(d:AW):AW:={d with farm:=g 5 d.farm,reach:=g (if d.kind=1 then 0 else 4) d.reach,flow:=f 0 d.flow,frm:=f 0 d.frm,to:=f 0 d.to,every:=f 0 d.every,len:=f 0 d.len}
def CU.mp(_:Nat)(d:CU):CU:={d with farm:=g 5 d.farm,reach:=g 4 d.reach,due:=f 0 d.due}
def Av.mp(x:Av):Av:=
 {x with season:=f 0 x.season,cap:=f 0 x.cap,start:=f 0 x.start,lets:=x.lets.mapIdx (Gh.mp f),crops:=x.crops.mapIdx (DN.mp f),reaches:=x.reaches.mapIdx (AA.mp f g),farms:=x.farms.mapIdx (CE.mp f g),rots:=x.rots.mapIdx (Br.mp f g),rights:=x.rights.mapIdx (AW.mp f g),duties:=x.duties.mapIdx (CU.mp f g)}
end
def PB(t sz:Nat):Prop:=(t=50∧sz=7)∨(t=92∧sz=7)∨(t=66∧sz=51)∨(t=94∧sz=12)∨(t=109∧sz=23)∨(t=158∧sz=8)∨(t=131∧sz=37)∨(t=135∧sz=11)
theorem D3{t sz:Nat}(h:PB t sz)(i c:Nat):Fu t (i*sz+c)=Fu t c∧FX t (i*sz+c)=FX t c:=by
 rcases h with ⟨rfl,rfl⟩|⟨rfl,rfl⟩|⟨rfl,rfl⟩|⟨rfl,rfl⟩|⟨rfl,rfl⟩|⟨rfl,rfl⟩|⟨rfl,rfl⟩|⟨rfl,rfl⟩
 ·have e:(i*7+c) % 7=c % 7:=by omega
  simp[Fu,FX,e]
 ·have e:(i*7+c) % 7=c % 7:=by omega
  simp[Fu,FX,e]
 ·have e:(i*51+c) % 51=c % 51:=by omega
  simp[Fu,FX,e]
 ·have e:(i*12+c) % 12=c % 12:=by omega
  simp[Fu,FX,e]
 ·have e:(i*23+c) % 23=c % 23:=by omega
  simp[Fu,FX,e]
 ·have e:(i*8+c) % 8=c % 8:=by omega
  simp[Fu,FX,e]
 ·have e:(i*37+c) % 37=c % 37:=by omega
  simp[Fu,FX,e]
 ·have e:(i*11+c) % 11=c % 11:=by omega
  simp[Fu,FX,e]
theorem B9{w:World}{g t sz:Nat}(h:Ty w g t)(hr:PB t sz)(i c:Nat)(h1:∀j,j < 6->Fu t (c+j)=1∧FX t (c+j)=j):Gp w g (i*sz+c):=
 ⟨t,h,fun j a=>by rw[zR,(D3 hr i (c+j)).1,(D3 hr i (c+j)).2];exact h1 j a⟩
theorem Dy{w:World}{g t sz:Nat}(h:Ty w g t)(hr:PB t sz)(i c:Nat)(h1:Fu t c=0):NV w g (i*sz+c):=⟨t,h,by rw[(D3 hr i c).1];exact h1⟩
theorem Er{w:World}{g t sz:Nat}(h:Ty w g t)(hr:PB t sz)(i:Nat)(h1:Fu t 0=0):NV w g (i*sz):=Dy h hr i 0 h1
theorem BL{w:World}{g t sz:Nat}(h:Ty w g t)(hr:PB t sz)(i c:Nat)(h1:Fu t c=0)(h2:Fu t (c+1)=2):PA w g (i*sz+c):=
 ⟨t,h,by rw[(D3 hr i c).1];exact h1,by rw[zR,(D3 hr i (c+1)).1];exact h2⟩
theorem Mf{w:World}{g t sz:Nat}(h:Ty w g t)(hr:PB t sz)(i:Nat)(h1:Fu t 0=0)(h2:Fu t 1=2):PA w g (i*sz):=BL h hr i 0 h1 h2
theorem SU:PB 50 7:=.inl ⟨rfl,rfl⟩
theorem PC:PB 92 7:=.inr (.inl ⟨rfl,rfl⟩)
theorem BS:PB 66 51:=.inr (.inr (.inl ⟨rfl,rfl⟩))
theorem Fe:PB 94 12:=.inr (.inr (.inr (.inl ⟨rfl,rfl⟩)))
theorem Fv:PB 109 23:=.inr (.inr (.inr (.inr (.inl ⟨rfl,rfl⟩))))
theorem KF:PB 158 8:=.inr (.inr (.inr (.inr (.inr (.inl ⟨rfl,rfl⟩)))))
theorem BT:PB 131 37:=.inr (.inr (.inr (.inr (.inr (.inr (.inl ⟨rfl,rfl⟩))))))
theorem Gq:PB 135 11:=.inr (.inr (.inr (.inr (.inr (.inr (.inr ⟨rfl,rfl⟩))))))
section
variable{N:NP}{E E':Int->Ex->Nat->Nat->Prop}{R R':Int->Rf->Nat->Nat->Prop}{w w':World}{f:Int->Ex->Ex}{g:Int->Rf->Rf}
theorem KE.same{s:ByteArray}{b o:Nat}(h:KE w s b o)(a:w'.cell? ⟨b,o,none⟩=w.cell? ⟨b,o,none⟩):KE w' s b o:=⟨h.1,a.trans h.2⟩
theorem C8.map{L:Bt}{x:Av}(h:C8 N E R w L x)(k:∀b t,(N b∨b=L.s)->Ty w b t->Ty w' b t)(c:∀b o,(N b∨b=L.s)->NV w b o->w'.cell? ⟨b,o,none⟩=w.cell? ⟨b,o,none⟩)
 (a:∀lt e b o,(N b∨b=L.s)->Gp w b o->E lt e b o->E' lt (f lt e) b o)(hr:∀to r b o,(N b∨b=L.s)->PA w b o->R to r b o->R' to (g to r) b o):C8 N E' R' w' L (x.mp f g):=by
 have l:∀o,Fu 35 o=0->w'.cell? (aV L.s o)=w.cell? (aV L.s o):=fun o z=>c _ _ (.inr rfl) ⟨_,h.ty,z⟩
 have v:∀lt e o,(∀j,j < 6->Fu 35 (o+j)=1∧FX 35 (o+j)=j)->E lt e L.s o->E' lt (f lt e) L.s o:=fun lt e o z=>a lt e _ _ (.inr rfl) ⟨_,h.ty,z⟩
 refine ⟨k _ _ (.inr rfl) h.ty,h.name.same (l 0 rfl),v _ _ _ (by decide) h.season,v _ _ _ (by decide) h.cap,v _ _ _ (by decide) h.start,(l _ rfl).trans h.hlets,(l _ rfl).trans h.hcrops,(l _ rfl).trans h.hreaches,(l _ rfl).trans h.hfarms,(l _ rfl).trans h.hrots,(l _ rfl).trans h.hrights,(l _ rfl).trans h.hduties,?_,?_,?_,?_,?_,?_,?_⟩
 ·refine h.lets.map (fun b hb=>k b _ (.inl hb)) fun i b d hb ty ⟨h1,h2⟩=>?_
  exact ⟨h1.same (c _ _ (.inl hb) (Er ty SU i rfl)),a _ _ _ _ (.inl hb) (B9 ty SU i 1 (by decide)) h2⟩
 ·refine h.crops.map (fun b hb=>k b _ (.inl hb)) fun i b d hb ty ⟨h1,h2⟩=>?_
  exact ⟨h1.same (c _ _ (.inl hb) (Er ty PC i rfl)),a _ _ _ _ (.inl hb) (B9 ty PC i 1 (by decide)) h2⟩
 ·refine h.reaches.map (fun b hb=>k b _ (.inl hb)) fun i b d hb ty ⟨h1,h2,n,q,p,u,y,B,C,A⟩=>?_
  exact ⟨h1.same (c _ _ (.inl hb) (Er ty BS i rfl)),hr _ _ _ _ (.inl hb) (BL ty BS i 1 rfl rfl) h2,
   a _ _ _ _ (.inl hb) (B9 ty BS i 3 (by decide)) n,a _ _ _ _ (.inl hb) (B9 ty BS i 9 (by decide)) q,a _ _ _ _ (.inl hb) (B9 ty BS i 15 (by decide)) p,a _ _ _ _ (.inl hb) (B9 ty BS i 21 (by decide)) u,
   a _ _ _ _ (.inl hb) (B9 ty BS i 27 (by decide)) y,a _ _ _ _ (.inl hb) (B9 ty BS i 33 (by decide)) B,a _ _ _ _ (.inl hb) (B9 ty BS i 39 (by decide)) C,a _ _ _ _ (.inl hb) (B9 ty BS i 45 (by decide)) A⟩
 ·refine h.farms.map (fun b hb=>k b _ (.inl hb)) fun i b d hb ty ⟨h1,h2,h3,m,h5⟩=>?_
  exact ⟨h1.same (c _ _ (.inl hb) (Er ty Fe i rfl)),hr _ _ _ _ (.inl hb) (BL ty Fe i 1 rfl rfl) h2,(c _ _ (.inl hb) (Dy ty Fe i 3 rfl)).trans h3,
   a _ _ _ _ (.inl hb) (B9 ty Fe i 4 (by decide)) m,hr _ _ _ _ (.inl hb) (BL ty Fe i 10 rfl rfl) h5⟩
 ·refine h.rots.map (fun b hb=>k b _ (.inl hb)) fun i b d hb ty ⟨h1,h2,h3,n,q,p,m,h5⟩=>?_
  refine ⟨h1.same (c _ _ (.inl hb) (Er ty Fv i rfl)),hr _ _ _ _ (.inl hb) (BL ty Fv i 1 rfl rfl) h2,(c _ _ (.inl hb) (Dy ty Fv i 3 rfl)).trans h3,
   a _ _ _ _ (.inl hb) (B9 ty Fv i 4 (by decide)) n,a _ _ _ _ (.inl hb) (B9 ty Fv i 10 (by decide)) q,a _ _ _ _ (.inl hb) (B9 ty Fv i 16 (by decide)) p,(c _ _ (.inl hb) (Dy ty Fv i 22 rfl)).trans m,?_⟩
  refine h5.map (fun b hb=>k b _ (.inl hb)) fun i b d hb ty ⟨h1,h2⟩=>?_
  exact ⟨hr _ _ _ _ (.inl hb) (Mf ty KF i rfl rfl) h1,a _ _ _ _ (.inl hb) (B9 ty KF i 2 (by decide)) h2⟩
 ·refine h.rights.map (fun b hb=>k b _ (.inl hb)) fun i b d hb ty ⟨h0,h1,h2,h3,m,n,q,p,u,y⟩=>?_
  exact ⟨(c _ _ (.inl hb) (Er ty BT i rfl)).trans h0,h1.same (c _ _ (.inl hb) (Dy ty BT i 1 rfl)),hr _ _ _ _ (.inl hb) (BL ty BT i 2 rfl rfl) h2,hr _ _ _ _ (.inl hb) (BL ty BT i 4 rfl rfl) h3,
   (c _ _ (.inl hb) (Dy ty BT i 6 rfl)).trans m,a _ _ _ _ (.inl hb) (B9 ty BT i 7 (by decide)) n,a _ _ _ _ (.inl hb) (B9 ty BT i 13 (by decide)) q,a _ _ _ _ (.inl hb) (B9 ty BT i 19 (by decide)) p,a _ _ _ _ (.inl hb) (B9 ty BT i 25 (by decide)) u,a _ _ _ _ (.inl hb) (B9 ty BT i 31 (by decide)) y⟩
 ·refine h.duties.map (fun b hb=>k b _ (.inl hb)) fun i b d hb ty ⟨h1,h2,h3,m⟩=>?_
  exact ⟨h1.same (c _ _ (.inl hb) (Er ty Gq i rfl)),hr _ _ _ _ (.inl hb) (BL ty Gq i 1 rfl rfl) h2,hr _ _ _ _ (.inl hb) (BL ty Gq i 3 rfl rfl) h3,a _ _ _ _ (.inl hb) (B9 ty Gq i 5 (by decide)) m⟩
end
def Vr(N:NP)(E:Int->Ex->Nat->Nat->Prop)(w:World)(a:Array Value)(e:Ks):Prop:=∃b o,a=#[.pointer (some ⟨b,o,none⟩),.int .i64 e.2]∧N b∧Gp w b o∧E e.2 e.1 b o
section
variable{N:NP}{E:Int->Ex->Nat->Nat->Prop}{R:Int->Rf->Nat->Nat->Prop}{w:World}
theorem Cv{h:Au}{g sz i b t:Nat}{e:Ex}{lt:Int}(c:h.a=some ⟨g,0,none⟩)(hN:N g)(ty:Ty w g t)(hr:PB t sz)(h1:∀j,j < 6->Fu t (b+j)=1∧FX t (b+j)=j)(d:E lt e g (i*sz+b)):Vr N E w #[h.ptr sz i b,.int .i64 lt] (e,lt):=
 ⟨g,i*sz+b,by unfold Au.ptr;rw[AO c,yy],hN,B9 ty hr i b h1,d⟩
theorem C8.all2{L:Bt}{x:Av}(h:C8 N E R w L x)(hs:N L.s):AB (Vr N E w) (BJ L) (Ax x):=by
 refine AB.append ?_ (AB.append ?_ (AB.append ?_ (AB.append ?_ (AB.append ?_ (AB.append ?_ (AB.append ?_ ?_))))))
 ·exact ⟨⟨L.s,1,rfl,hs,⟨_,h.ty,by decide⟩,h.season⟩,⟨L.s,7,rfl,hs,⟨_,h.ty,by decide⟩,h.cap⟩,⟨L.s,13,rfl,hs,⟨_,h.ty,by decide⟩,h.start⟩,trivial⟩
 ·obtain ⟨h1,h2,h3⟩:=h.lets
  refine AY _ (fun i (d:Gh)=> [(d.value,1+(i:Int))]) x.lets _ h1 fun i hi=>?_
  obtain ⟨g,g1,a,ty,m,f⟩:=h3 i hi
  exact ⟨Cv g1 a ty SU (by decide) f,trivial⟩
 ·obtain ⟨h1,h2,h3⟩:=h.crops
  refine AY _ (fun i (d:DN)=> [(d.need,0)]) x.crops _ h1 fun i hi=>?_
  obtain ⟨g,g1,a,ty,m,f⟩:=h3 i hi
  exact ⟨Cv g1 a ty PC (by decide) f,trivial⟩
 ·obtain ⟨h1,h2,h3⟩:=h.reaches
  refine AY _ (fun i (d:AA)=> [(d.delay,0),(d.cap,0),(d.bank,0),(d.siphon,0),(d.evap0,0),(d.evap1,0),(d.seep0,0),(d.seep1,0)]) x.reaches _ h1 fun i hi=>?_
  obtain ⟨g,g1,a,ty,m,f,b,e,c,j,l,o,t,n⟩:=h3 i hi
  exact ⟨Cv g1 a ty BS (by decide) b,Cv g1 a ty BS (by decide) e,Cv g1 a ty BS (by decide) c,Cv g1 a ty BS (by decide) j,Cv g1 a ty BS (by decide) l,Cv g1 a ty BS (by decide) o,Cv g1 a ty BS (by decide) t,Cv g1 a ty BS (by decide) n,trivial⟩
 ·obtain ⟨h1,h2,h3⟩:=h.farms
  refine AY _ (fun i (d:CE)=> [(d.area,0)]) x.farms _ h1 fun i hi=>?_
  obtain ⟨g,g1,a,ty,_,_,_,b,_⟩:=h3 i hi
  exact ⟨Cv g1 a ty Fe (by decide) b,trivial⟩
 ·obtain ⟨h1,h2,h3⟩:=h.rots
  refine AY _ (fun i (d:Br)=> [(d.flow,0),(d.frm,0),(d.to,0)]++Em d.turns) x.rots _ h1 fun i hi=>?_
  obtain ⟨g,g1,a,ty,_,_,_,b,e,c,_,q,u,r⟩:=h3 i hi
  refine AB.append ⟨Cv g1 a ty Fv (by decide) b,Cv g1 a ty Fv (by decide) e,Cv g1 a ty Fv (by decide) c,trivial⟩ ?_
  refine AY _ (fun k (d:Cb)=> [(d.len,0)]) (x.rots[i]).turns _ q fun k p=>?_
  obtain ⟨g,g1,a,ty,_,b⟩:=r k p
  exact ⟨Cv g1 a ty KF (by decide) b,trivial⟩
 ·obtain ⟨h1,h2,h3⟩:=h.rights
  refine AY _ (fun i (d:AW)=> [(d.flow,0),(d.frm,0),(d.to,0),(d.every,0),(d.len,0)]) x.rights _ h1 fun i hi=>?_
  obtain ⟨g,g1,a,ty,_,_,_,_,_,b,e,c,j,l⟩:=h3 i hi
  exact ⟨Cv g1 a ty BT (by decide) b,Cv g1 a ty BT (by decide) e,Cv g1 a ty BT (by decide) c,Cv g1 a ty BT (by decide) j,Cv g1 a ty BT (by decide) l,trivial⟩
 ·obtain ⟨h1,h2,h3⟩:=h.duties
  refine AY _ (fun i (d:CU)=> [(d.due,0)]) x.duties _ h1 fun i hi=>?_
  obtain ⟨g,g1,a,ty,_,_,_,b⟩:=h3 i hi
  exact ⟨Cv g1 a ty Gq (by decide) b,trivial⟩
end
def EV(N:NP)(w:World)(_:Int)(e:Ex)(b o:Nat):Prop:=∃c,w.rangeAt b o c∧AG N w e c
def RV(w:World)(_:Int)(r:Rf)(b o:Nat):Prop:=r.name.size<=maxLen∧w.cell? ⟨b,o,none⟩=some (.string r.name)∧w.cell? ⟨b,o+1,none⟩=some (.int .i64 r.n)
theorem A6{w:World}{b o:Nat}{v:Value}{l:LV}(h:w.cell? ⟨b,o,none⟩=some v)(c:w.rangeAt b (o+1) l):w.rangeAt b o (v::l):=fun j u a=>by
 cases j with
 |zero=>simp at a;subst a;exact h
 |succ j=>have:=c j u (by simpa using a);rw[show o+(j+1)=o+1+j by omega];exact this
theorem ID{w:World}{b o:Nat}{l m:LV}(h:w.rangeAt b o l)(d:w.rangeAt b (o+l.length) m):w.rangeAt b o (l++m):=fun j u a=>by
 rcases zU j l.length with c|c
 ·rw[zn c] at a;exact h j u a
 ·rw[yU c] at a
  have:=d (j - l.length) u a
  rw[show o+l.length+(j - l.length)=o+j by omega] at this;exact this
theorem Rw(w:World)(b o:Nat):w.rangeAt b o []:=fun j u a=>by simp at a
theorem BU{w:World}{b o:Nat}{v:Value}(h:w.cell? ⟨b,o,none⟩=some v):w.rangeAt b o [v]:=A6 h (Rw _ _ _)
theorem Mg{w:World}{to:Int}{r:Rf}{b o:Nat}(h:RV w to r b o):w.rangeAt b o (AU r):=A6 h.2.1 (BU h.2.2)
theorem Bd{w:World}{b o:Nat}{c l:LV}(a:c.length=6)(h:w.rangeAt b o c)(d:w.rangeAt b (o+6) l):w.rangeAt b o (c++l):=ID h (by rw[a];exact d)
theorem EJ{w:World}{to:Int}{r:Rf}{b o:Nat}{l:LV}(h:RV w to r b o)(a:w.rangeAt b (o+2) l):w.rangeAt b o (AU r++l):=ID (Mg h) a
theorem Ej.isRow{α:Type}{N:NP}{w:World}{t sz:Nat}{P:Nat->Nat->Nat->α->Prop}{h:Au}{l:List α}{Q:LV->α->Prop}(hr:Ej N w t sz P h l)(a:∀i g d,P i g (i*sz) d->∃cs,cs.length=sz∧w.rangeAt g (i*sz) cs∧Q cs d):BE N w sz Q h l:=by
 obtain ⟨h1,h2,h3⟩:=hr
 refine ⟨h1,h2,fun i hi=>?_⟩
 obtain ⟨g,g1,f,ty,b⟩:=h3 i hi
 obtain ⟨cs,j,c,e⟩:=a i g _ b
 exact ⟨g,0,cs,g1,f,j,by rw[yy];exact c,e⟩
theorem C8.srcV{N:NP}{w:World}{L:Bt}{x:Av}(h:C8 N (EV N w) (RV w) w L x):∃cs,cs.length=26∧w.rangeAt L.s 0 cs∧BH N w L cs x:=by
 obtain ⟨c0,c,v0⟩:=h.season
 obtain ⟨c1,r1,v1⟩:=h.cap
 obtain ⟨c2,r2,j⟩:=h.start
 have a:=v0.len;have f:=v1.len;have e:=j.len
 refine ⟨.string x.name::(c0++(c1++(c2++[L.lets.v,L.crops.v,L.reaches.v,L.farms.v,L.rots.v,L.rights.v,L.duties.v]))),by simp[a,f,e],?_,?_⟩
 ·exact A6 h.name.2 (Bd a c (Bd f r1 (Bd e r2 (A6 h.hlets (A6 h.hcrops (A6 h.hreaches (A6 h.hfarms (A6 h.hrots (A6 h.hrights (BU h.hduties))))))))))
 refine ⟨h.name.1,⟨c0,c1,c2,rfl,v0,v1,j⟩,?_,?_,?_,?_,?_,?_,?_⟩
 ·refine h.lets.isRow fun i g d ⟨h1,c0,c,v0⟩=>?_
  have a:=v0.len
  exact ⟨.string d.name::c0,by simp[a],A6 h1.2 c,h1.1,c0,rfl,v0⟩
 ·refine h.crops.isRow fun i g d ⟨h1,c0,c,v0⟩=>?_
  have a:=v0.len
  exact ⟨.string d.name::c0,by simp[a],A6 h1.2 c,h1.1,c0,rfl,v0⟩
 ·refine h.reaches.isRow fun i g d ⟨h1,b,⟨c0,c,v0⟩,⟨c1,r1,v1⟩,⟨c2,r2,j⟩,⟨c3,o,v3⟩,⟨c4,p,v4⟩,⟨c5,D,v5⟩,⟨c6,B,t⟩,⟨c7,y,r⟩⟩=>?_
  have a:=v0.len;have f:=v1.len;have e:=j.len;have m:=v3.len;have n:=v4.len;have l5:=v5.len;have l6:=t.len;have u:=r.len
  exact ⟨.string d.name::(AU d.frm++(c0++(c1++(c2++(c3++(c4++(c5++(c6++c7)))))))),by simp[Aw,a,f,e,m,n,l5,l6,u],
   A6 h1.2 (EJ b (Bd a c (Bd f r1 (Bd e r2 (Bd m o (Bd n p (Bd l5 D (Bd l6 B y)))))))),h1.1,b.1,c0,c1,c2,c3,c4,c5,c6,c7,rfl,v0,v1,j,v3,v4,v5,t,r⟩
 ·refine h.farms.isRow fun i g d ⟨h1,b,l,⟨c0,c,v0⟩,k⟩=>?_
  have a:=v0.len
  exact ⟨.string d.name::(AU d.on++(.bool d.river::(c0++AU d.crop))),by simp[Aw,a],A6 h1.2 (EJ b (A6 l (Bd a c (Mg k)))),h1.1,b.1,k.1,c0,rfl,v0⟩
 ·obtain ⟨h1,h2,h3⟩:=h.rots
  refine ⟨h1,h2,fun i hi=>?_⟩
  obtain ⟨g,g1,C,ty,q,b,l,⟨c0,c,v0⟩,⟨c1,r1,v1⟩,⟨c2,r2,j⟩,A,z⟩:=h3 i hi
  have a:=v0.len;have f:=v1.len;have e:=j.len
  refine ⟨g,0,.string (x.rots[i]).name::(AU (x.rots[i]).on++(iV (x.rots[i]).rank::(c0++(c1++(c2++[(A2 L i).v]))))),g1,C,by simp[Aw,a,f,e],?_,q.1,b.1,c0,c1,c2,rfl,v0,v1,j,?_⟩
  ·rw[yy]
   exact A6 q.2 (EJ b (A6 l (Bd a c (Bd f r1 (Bd e r2 (BU A))))))
  ·refine z.isRow fun i g d ⟨b,c0,c,v0⟩=>?_
   have a:=v0.len
   exact ⟨AU d.farm++c0,by simp[Aw,a],EJ b c,b.1,c0,rfl,v0⟩
 ·refine h.rights.isRow fun i g d ⟨h0,h1,b,k,l,⟨c0,c,v0⟩,⟨c1,r1,v1⟩,⟨c2,r2,j⟩,⟨c3,o,v3⟩,⟨c4,p,v4⟩⟩=>?_
  have a:=v0.len;have f:=v1.len;have e:=j.len;have m:=v3.len;have n:=v4.len
  exact ⟨iV d.kind::.string d.name::(AU d.farm++(AU d.reach++(iV d.rank::(c0++(c1++(c2++(c3++c4))))))),by simp[Aw,a,f,e,m,n],
   A6 h0 (A6 h1.2 (EJ b (EJ k (A6 l (Bd a c (Bd f r1 (Bd e r2 (Bd m o p)))))))),h1.1,b.1,k.1,c0,c1,c2,c3,c4,rfl,v0,v1,j,v3,v4⟩
 ·refine h.duties.isRow fun i g d ⟨h1,b,k,⟨c0,c,v0⟩⟩=>?_
  have a:=v0.len
  exact ⟨.string d.name::(AU d.farm++(AU d.reach++c0)),by simp[Aw,a],A6 h1.2 (EJ b (EJ k c)),h1.1,b.1,k.1,c0,rfl,v0⟩
theorem JU{ops:Array Oper}{o:Oper}{a:Act}{K:Act->World->Prop}{Q:QT}{E:Prop}{W:World}{t e:TypeId}{w:TypeInfo}{z:Value}{size d:Nat}(R:Tryz.prog.underlying t=some (.slice e))(hi:Tryz.prog.info? e=some w)(I:w.zero=some z)(F:w.size=size)(O:w.bytes=d)(C:z.cells.size=size)(D:0 < size)(N:d<=10000)
 (B:Nat)(J:o.guard=none)(s x:Operand)(V:o.op=.call {callee:=.builtin .append,args:=#[s,x],argTypes:=#[t,t]})(v:Value)(n:Nat)(xs:LV)(hs:a.eval s=v)(f:W.ownsRow B e size v n xs)
 (X:Value)(m:Nat)(A:LV)(U:a.eval x=X)(hX:BK W X m size A)(p:n+m<=1000000)(l:B<=W.heap.size)
 (h:∀(y:Option Addr) (c:Nat) w',w'.ownsRow B e size (.slice y (n+m) c) (n+m) (xs++A)->W.grownBy w' v.ownBlock->K (a.put o.dst (.slice y (n+m) c)) w'):
  if Region.wanted o (yielded ops a.tmps)=true then Oper.wp Tryz.prog o a W K Q else E:=by
 have Y:Region.wanted o (yielded ops a.tmps)=true:=by simp[Region.wanted,J]
 rw[yw Y]
 obtain ⟨q,G,y,cap,rfl,k⟩:=hX
 by_cases T:m=0
 ·subst T
  obtain rfl:A=[]:=zl.1 (by simpa using q)
  have r:=EP R hi W B o.type v n xs f y cap
  obtain ⟨va,H,rfl⟩:∃a c,v=.slice a n c:=by
   rcases f.2 with ⟨rfl,M⟩|⟨g,cap,L,rfl,_⟩
   ·exact ⟨none,0,by rw[M]⟩
   ·exact ⟨_,_,rfl⟩
  unfold Oper.wp
  simp[execOp,V,resolve,invoke,builtin,hs,U,r,Result.andThen]
  have S:=h va H W (by simpa using f) ⟨rfl,rfl,rfl,yf _,fun _ _ _=>rfl⟩
  rw[xZ] at S
  exact S
 ·obtain ⟨b,P,rfl,hb,hc⟩:=k.resolve_left T
  refine wp_append_own W s x t V B e w z size d R hi I F O C D v n xs hs f (aV b P) m cap A U q (fun j u Z=>?_) G (by unfold maxLen;omega) (by
   have:(n+m)*d<=1000000*10000:=qt p N
   omega) l ?_
  ·rw[zB];exact hc j u Z
  ·intro v' w' i hg _
   obtain ⟨va,H,rfl⟩:∃a c,v'=.slice a (n+m) c:=by
    rcases i.2 with ⟨rfl,M⟩|⟨g,cap,L,rfl,_⟩
    ·exact ⟨none,0,by rw[M]⟩
    ·exact ⟨_,_,rfl⟩
   exact h va H w' i hg
theorem IE{ops:Array Oper}{o:Oper}{a:Act}{rest:List Oper}{Q:QT}{W:World}{t e:TypeId}{k:TypeInfo}{z:Value}{size b:Nat}(C:Tryz.prog.underlying t=some (.slice e))(hi:Tryz.prog.info? e=some k)(r:k.zero=some z)(q:k.size=size)(w:k.bytes=b)(l:z.cells.size=size)(p:0 < size)(u:b<=10000)
 (B:Nat)(d:o.guard=none)(s x:Operand)(H:o.op=.call {callee:=.builtin .append,args:=#[s,x],argTypes:=#[t,t]})(v:Value)(n:Nat)(xs:LV)(hs:a.eval s=v)(g:W.ownsRow B e size v n xs)
 (X:Value)(m:Nat)(y:LV)(G:a.eval x=X)(D:BK W X m size y)(i:n+m<=1000000)(f:B<=W.heap.size)
 (h:∀(j:Option Addr) (c:Nat) w',w'.ownsRow B e size (.slice j (n+m) c) (n+m) (xs++y)->W.grownBy w' v.ownBlock->wpList Tryz.prog ops Q rest (a.put o.dst (.slice j (n+m) c)) w'):wpList Tryz.prog ops Q (o::rest) a W:=
 zx d fun K A=>by
  have F:=JU (ops:=ops) (E:=True) (K:=K) (Q:=Q) C hi r q w l p u B d s x H v n xs hs g X m y G D i f (fun j c w' h1 h2=>A _ _ (h j c w' h1 h2))
  rwa [yw (by simp[Region.wanted,d])] at F
theorem FY:∀(a:List LV) (sz:Nat),(∀cs∈a,cs.length=sz)->a.flatten.length=a.length*sz∧∀i (h:i < a.length) j,j < sz->a.flatten[i*sz+j]?=a[i][j]?
 |[],sz,_=>⟨by simp,fun i h=>by simp at h⟩
 |c::r,sz,h=>by
  obtain ⟨h1,h2⟩:=FY r sz (fun cs b=>h cs (List.mem_cons_of_mem _ b))
  have b:=h c List.mem_cons_self
  refine ⟨by rw[zs,ym,h1,b,yx,Nat.add_mul];omega,fun i hi j d=>?_⟩
  cases i with
  |zero=>rw[zs,Nat.zero_mul,yy,zn (by omega)];rfl
  |succ i=>
   rw[zs,yU (by rw[b,Nat.add_mul];omega),b,show (i+1)*sz+j - sz=i*sz+j by rw[Nat.add_mul];omega]
   exact h2 i (by simpa using hi) j d
theorem Rx{α:Type}{N:NP}{w:World}{sz:Nat}{Q:LV->α->Prop}{h:Au}{l:List α}(hr:BE N w sz Q h l)(hN:∀b,N b->b < w.heap.size)(m:∀cs d,Q cs d->∀v∈cs,v.oneCell'=true):
  ∃e:List LV,e.length=l.length∧(∀i (hi:i < e.length) (g:i < l.length),e[i].length=sz∧Q e[i] l[i])∧(∀cs∈e,cs.length=sz)∧BK w h.v h.n sz e.flatten:=by
 obtain ⟨h1,h2,h3⟩:=hr
 have y:∀i,∃cs:LV,∀(hi:i < l.length),cs.length=sz∧Q cs l[i]∧∃b o,h.a=some (aV b o)∧N b∧w.rangeAt b (o+i*sz) cs:=fun i=>by
  by_cases hi:i < l.length
  ·obtain ⟨b,o,cs,g1,J,L,K,G⟩:=h3 i hi
   exact ⟨cs,fun _=>⟨L,G,b,o,g1,J,K⟩⟩
  ·exact ⟨[],fun h=>absurd h hi⟩
 obtain ⟨F,k⟩:=Classical.axiomOfChoice y
 have s:((List.range l.length).map F).length=l.length:=by simp
 have E:∀i (hi:i < ((List.range l.length).map F).length),((List.range l.length).map F)[i]=F i:=fun i hi=>by simp
 have p:∀cs∈(List.range l.length).map F,cs.length=sz:=fun cs z=>by
  obtain ⟨i,hi,rfl⟩:=xR.1 z
  exact (k i (zg.1 hi)).1
 obtain ⟨A,H⟩:=FY _ sz p
 refine ⟨(List.range l.length).map F,s,fun i hi g=>by rw[E i hi];exact ⟨(k i g).1,(k i g).2.1⟩,p,⟨by rw[A,s,h1],fun u x=>?_,h.a,h.c,rfl,?_⟩⟩
 ·obtain ⟨cs,z,x⟩:=List.mem_flatten.1 x
  obtain ⟨i,hi,rfl⟩:=xR.1 z
  exact m _ _ (k i (zg.1 hi)).2.1 u x
 ·by_cases h0:h.n=0
  ·exact .inl h0
  ·obtain ⟨_,_,b,o,C,hb,_⟩:=k 0 (by omega)
   refine .inr ⟨b,o,C,hN b hb,fun j u B=>?_⟩
   have q:=(yA.1 B).1
   rw[A,s] at q
   have f:0 < sz:=by
    rcases qn sz with h|h
    ·subst h;omega
    ·exact h
   have hi:j / sz < l.length:=(Nat.div_lt_iff_lt_mul f).2 q
   have M:j % sz < sz:=Nat.mod_lt _ f
   have I:j / sz*sz+j % sz=j:=by rw[Nat.mul_comm];exact Nat.div_add_mod j sz
   have D:=H (j / sz) (by rw[s];exact hi) (j % sz) M
   rw[I,B,E] at D
   obtain ⟨_,_,P,O,r,_,t⟩:=k (j / sz) hi
   rw[C] at r
   cases r
   have:=t (j % sz) u D.symm
   rw[show o+j / sz*sz+j % sz=o+j by omega] at this
   exact this
def Ff{α:Type}(w:World)(t sz:Nat)(Q:LV->α->Prop)(l:List α)(e:Ending)(w':World):Prop:=
 ∃h:Au,e=.returned h.v∧h.n=l.length∧Below w.heap.size w w'∧∀i (hi:i < l.length),∃g cs,h.a=some ⟨g,0,none⟩∧w.heap.size<=g∧Ty w' g t∧cs.length=sz∧w'.rangeAt g (i*sz) cs∧Q cs l[i]
theorem Ry{α:Type}{w w1 w':World}{t sz:Nat}{Q:LV->α->Prop}{l:List α}{d:List LV}(I:d.length=l.length)(B:∀i (hi:i < d.length) (z:i < l.length),d[i].length=sz∧Q d[i] l[i])(p:∀cs∈d,cs.length=sz)
 {a:Option Addr}{n c:Nat}(F:n=l.length)(f:w'.ownsRow w.heap.size t sz (.slice a (0+n) c) (0+n) ([]++d.flatten))(hb:Below w.heap.size w w1)(m:w1.grownBy w' (some w.heap.size))(J:w.heap.size<=w1.heap.size):Ff w t sz Q l (.returned (.slice a (0+n) c)) w':=by
 rw[yy,yS] at f
 refine ⟨⟨a,n,c⟩,by rw[yy];rfl,F,hb.trans ⟨m.os,m.tape,m.output,m.size,fun b G=>m.block b (by omega) (fun e=>by cases e;omega)⟩,fun i hi=>?_⟩
 obtain ⟨H,A⟩:=FY d sz p
 have h:i < d.length:=by omega
 obtain ⟨y,C⟩:=B i h hi
 rcases f.2 with ⟨_,h0⟩|⟨g,cap,D,s,r,x,_,_,_,E⟩
 ·omega
 ·simp only[qv,true_and] at s
  obtain ⟨rfl,rfl⟩:=s
  refine ⟨g,d[i],rfl,r,⟨_,x⟩,y,fun j u v=>?_,C⟩
  have k:=(yA.1 v).1
  rw[y] at k
  have o:=(A i h j k).trans v
  rw[<-E] at o
  have q:=(yA.1 o).1
  rw[zc] at q
  rw[zN,yw (by omega)] at o
  simp only[World.cell?,x]
  simpa using o
section
variable{N:NP}{w:World}
theorem Es(r:Rf):∀v∈AU r,v.oneCell'=true:=by intro v a;simp[AU] at a;rcases a with rfl|rfl<;>rfl
theorem Cq{v:Value}{l:LV}(h:v.oneCell'=true)(b:∀u∈l,u.oneCell'=true):∀u∈v::l,u.oneCell'=true:=fun u a=>(yI.1 a).elim (fun e=>e▸h) (b u)
theorem AK{l m:LV}(h:∀u∈l,u.oneCell'=true)(b:∀u∈m,u.oneCell'=true):∀u∈l++m,u.oneCell'=true:=fun u a=>(yz.1 a).elim (h u) (b u)
theorem Bm{e:Ex}{c:LV}(h:AG N w e c):∀v∈c,v.oneCell'=true:=by
 obtain ⟨a,cap,rfl,_⟩:=h.cells
 intro v b
 simp at b
 rcases b with rfl|rfl|rfl|rfl|rfl|rfl<;>rfl
theorem QB(cs:LV)(d:Gh)(h:JS N w cs d):∀v∈cs,v.oneCell'=true:=by
 obtain ⟨_,c,rfl,g⟩:=h;exact Cq rfl (Bm g)
theorem NW(cs:LV)(d:DN)(h:I6 N w cs d):∀v∈cs,v.oneCell'=true:=by
 obtain ⟨_,c,rfl,g⟩:=h;exact Cq rfl (Bm g)
theorem J9(cs:LV)(d:AA)(h:F8 N w cs d):∀v∈cs,v.oneCell'=true:=by
 obtain ⟨_,_,c0,c1,c2,c3,c4,c5,c6,c7,rfl,f,g1,b,e,c,a,g,i⟩:=h
 exact Cq rfl (AK (Es _) (AK (Bm f) (AK (Bm g1) (AK (Bm b) (AK (Bm e) (AK (Bm c) (AK (Bm a) (AK (Bm g) (Bm i)))))))))
theorem NX(cs:LV)(d:CE)(h:I7 N w cs d):∀v∈cs,v.oneCell'=true:=by
 obtain ⟨_,_,_,c,rfl,g⟩:=h;exact Cq rfl (AK (Es _) (Cq rfl (AK (Bm g) (Es _))))
theorem SV(cs:LV)(d:Cb)(h:Ft N w cs d):∀v∈cs,v.oneCell'=true:=by
 obtain ⟨_,c,rfl,g⟩:=h;exact AK (Es _) (Bm g)
theorem Ja(cs:LV)(d:AW)(h:F9 N w cs d):∀v∈cs,v.oneCell'=true:=by
 obtain ⟨_,_,_,c0,c1,c2,c3,c4,rfl,a,g1,e,c,b⟩:=h
 exact Cq rfl (Cq rfl (AK (Es _) (AK (Es _) (Cq rfl (AK (Bm a) (AK (Bm g1) (AK (Bm e) (AK (Bm c) (Bm b)))))))))
theorem NY(cs:LV)(d:CU)(h:I8 N w cs d):∀v∈cs,v.oneCell'=true:=by
 obtain ⟨_,_,_,c,rfl,g⟩:=h;exact Cq rfl (AK (Es _) (AK (Es _) (Bm g)))
end
theorem Nx{T e:Nat}(f:Tryz.prog.underlying T=some (.slice e))(w:World)(a:Option Addr)(n c d b:Nat):(binOp .eql T (.slice a n c) (.slice none d b)).run Tryz.prog w=.ok (.bool a.isNone) w:=Lib.run_eql_slice_nil w _ _ a n c d b f
def FI(fn:Nat):Prop:=∀(w:World) (n c:Nat),Calls Tryz.prog fn #[.slice none n c] w fun e w'=>e=.returned (.slice none 0 0)∧w'=w
def FJ(fn T sz:Nat):Prop:=∀(w:World) (a:Addr) (n c:Nat) (xs:LV) (b:TypeInfo) (z:Value),Tryz.prog.info? T=some b->b.zero=some z->b.size=sz->z.cells.size=sz->b.bytes<=10000->BK (w.alloc (.cells #[] T)) (.slice (some a) n c) n sz xs->(w.alloc (.cells #[] T)).ownsRow w.heap.size T sz (.slice (some ⟨w.heap.size,0,none⟩) 0 0) 0 []->0+n<=1000000->w.heap.size<=(w.alloc (.cells #[] T)).heap.size->
  Calls Tryz.prog fn #[.slice (some a) n c] w fun e w'=>∃d c2,e=.returned (.slice d (0+n) c2)∧w'.ownsRow w.heap.size T sz (.slice d (0+n) c2) (0+n) ([]++xs)∧(w.alloc (.cells #[] T)).grownBy w' (some w.heap.size)
theorem Dg{fn T sz:Nat}(f:((Tryz.prog.info? T).bind fun i=>i.zero.map fun z=>(i.size,z.cells.size,decide (i.bytes<=10000)))=some (sz,sz,true))(A:FI fn)(s:FJ fn T sz){α:Type}{N:NP}{w:World}{Q:LV->α->Prop}{h:Au}{l:List α}(hr:BE N w sz Q h l)(hN:∀b,N b->b < w.heap.size)(m:∀cs d,Q cs d->∀v∈cs,v.oneCell'=true)(L:l.length<=100000):
  Calls Tryz.prog fn #[h.v] w (Ff w T sz Q l):=by
 obtain ⟨x,E,D,r,g⟩:=Rx hr hN m
 have q:=hr.1
 obtain ⟨a,n,c⟩:=h
 unfold Au.v at g ⊢
 simp only at q g
 cases a with
 |none=>
  have t:l.length=0:=by
   rcases qn l.length with h|h
   ·exact h
   ·obtain ⟨_,_,_,h1,_⟩:=hr.2.2 0 h;cases h1
  refine (A w n c).mono ?_
  rintro e w' ⟨rfl,rfl⟩
  exact ⟨⟨none,0,0⟩,rfl,t.symm,yg _ _,fun i hi=>by omega⟩
 |some a=>
  cases hi:Tryz.prog.info? T with
  |none=>simp[hi] at f
  |some i0=>
  cases y:i0.zero with
  |none=>simp[hi,y] at f
  |some z=>
  simp only[hi,y,xu,xB,za,zr,z7] at f
  have k:Below w.heap.size w (w.alloc (.cells #[] T)):=(yg _ _).alloc (yf _) _
  refine (s w a n c x.flatten i0 z hi y f.1 f.2.1 f.2.2 ?_ ⟨by simp,.inr ⟨w.heap.size,0,#[],rfl,yf _,World.alloc_heap_new _ _,yf _,yK _,by simp,by simp⟩⟩ (by omega) k.size).mono ?_
  ·obtain ⟨r1,r2,B,H,G,I⟩:=g
   refine ⟨r1,r2,B,H,G,I.imp id ?_⟩
   rintro ⟨b,o,e,hb,J⟩
   exact ⟨b,o,e,yv hb k.size,fun j u F=>(k.cell (p:=(aV b (o+j))) hb).trans (J j u F)⟩
  ·rintro e w' ⟨K,c2,rfl,h5,C⟩
   exact Ry E D r q h5 k C k.size
theorem CL:FI 82∧FI 83∧FI 84∧FI 85∧FI 86∧FI 87∧FI 88∧FI 89∧FI 91:=by
 refine ⟨?_,?_,?_,?_,?_,?_,?_,?_,?_⟩
 all_goals
  intro w n c
  have e:=Nx qN
  have j:=Nx qO
  have g:=Nx qP
  have h:=Nx qR
  have b:=Nx qS
  have d:=Nx qT
  have i:=Nx qU
  have f:=Nx qD
  have a:=Nx qL
  first|go_enter Tryz.func82,Tryz.ntmps82|go_enter Tryz.func83,Tryz.ntmps83|go_enter Tryz.func84,Tryz.ntmps84|go_enter Tryz.func85,Tryz.ntmps85|go_enter Tryz.func86,Tryz.ntmps86|go_enter Tryz.func87,Tryz.ntmps87|go_enter Tryz.func88,Tryz.ntmps88|go_enter Tryz.func89,Tryz.ntmps89|go_enter Tryz.func91,Tryz.ntmps91
  go_wp2
  go_ret
  exact ⟨rfl,rfl⟩
theorem CM:FJ 82 50 7∧FJ 83 92 7∧FJ 84 66 51∧FJ 85 94 12∧FJ 86 109 23∧FJ 87 131 37∧FJ 88 135 11∧FJ 89 158 8∧FJ 91 26 6:=by
 refine ⟨?_,?_,?_,?_,?_,?_,?_,?_,?_⟩
 all_goals
  intro w a n c xs L z hi k i g l f d e h
  have B:=yb hi;have u:=yb k;have v:=yb i;have r:=yb g;have s:=yb l
  have j:=yb f;have m:=yb d;have p:=yb e;have t:=yb h
  clear hi k i g l f d e h
  have M:=Nx qN
  have J:=Nx qO
  have G:=Nx qP
  have H:=Nx qR
  have D:=Nx qS
  have I:=Nx qT
  have E:=Nx qU
  have F:=Nx qD
  have K:=Nx qL
  first|go_enter Tryz.func82,Tryz.ntmps82|go_enter Tryz.func83,Tryz.ntmps83|go_enter Tryz.func84,Tryz.ntmps84|go_enter Tryz.func85,Tryz.ntmps85|go_enter Tryz.func86,Tryz.ntmps86|go_enter Tryz.func87,Tryz.ntmps87|go_enter Tryz.func88,Tryz.ntmps88|go_enter Tryz.func89,Tryz.ntmps89|go_enter Tryz.func91,Tryz.ntmps91
  go_wp2_with (first|(at_builtin;refine IE (by first|exact qN|exact qO|exact qP|exact qR|exact qS|exact qT|exact qU|exact qD|exact qL) B.o u.o v.o rfl r.o (by decide) s.o w.heap.size rfl _ _ rfl (.slice (some (aV w.heap.size 0)) 0 0) 0 [] rfl m.o (.slice (some a) n c) n xs rfl j.o p.o t.o ?_;intro A c2 C b q;have y:=yb b;have x:=yb q;clear b q))
  go_ret
  exact ⟨A,c2,by simp,y.o,x.o⟩
theorem Rz{α:Type}{N:NP}{w:World}{Q:LV->α->Prop}{h:Au}{l:List α}(hr:BE N w 7 Q h l)(hN:∀b,N b->b < w.heap.size)(a:∀cs d,Q cs d->∀v∈cs,v.oneCell'=true)(c:l.length<=100000):Calls Tryz.prog 82 #[h.v] w (Ff w 50 7 Q l):=Dg (by kernel_rfl) CL.1 CM.1 hr hN a c
theorem PD{α:Type}{N:NP}{w:World}{Q:LV->α->Prop}{h:Au}{l:List α}(hr:BE N w 7 Q h l)(hN:∀b,N b->b < w.heap.size)(a:∀cs d,Q cs d->∀v∈cs,v.oneCell'=true)(c:l.length<=100000):Calls Tryz.prog 83 #[h.v] w (Ff w 92 7 Q l):=Dg (by kernel_rfl) CL.2.1 CM.2.1 hr hN a c
theorem NZ{α:Type}{N:NP}{w:World}{Q:LV->α->Prop}{h:Au}{l:List α}(hr:BE N w 51 Q h l)(hN:∀b,N b->b < w.heap.size)(a:∀cs d,Q cs d->∀v∈cs,v.oneCell'=true)(c:l.length<=100000):Calls Tryz.prog 84 #[h.v] w (Ff w 66 51 Q l):=Dg (by kernel_rfl) CL.2.2.1 CM.2.2.1 hr hN a c
theorem PE{α:Type}{N:NP}{w:World}{Q:LV->α->Prop}{h:Au}{l:List α}(hr:BE N w 12 Q h l)(hN:∀b,N b->b < w.heap.size)(a:∀cs d,Q cs d->∀v∈cs,v.oneCell'=true)(c:l.length<=100000):Calls Tryz.prog 85 #[h.v] w (Ff w 94 12 Q l):=Dg (by kernel_rfl) CL.2.2.2.1 CM.2.2.2.1 hr hN a c
theorem RC{α:Type}{N:NP}{w:World}{Q:LV->α->Prop}{h:Au}{l:List α}(hr:BE N w 23 Q h l)(hN:∀b,N b->b < w.heap.size)(a:∀cs d,Q cs d->∀v∈cs,v.oneCell'=true)(c:l.length<=100000):Calls Tryz.prog 86 #[h.v] w (Ff w 109 23 Q l):=Dg (by kernel_rfl) CL.2.2.2.2.1 CM.2.2.2.2.1 hr hN a c
theorem O0{α:Type}{N:NP}{w:World}{Q:LV->α->Prop}{h:Au}{l:List α}(hr:BE N w 37 Q h l)(hN:∀b,N b->b < w.heap.size)(a:∀cs d,Q cs d->∀v∈cs,v.oneCell'=true)(c:l.length<=100000):Calls Tryz.prog 87 #[h.v] w (Ff w 131 37 Q l):=Dg (by kernel_rfl) CL.2.2.2.2.2.1 CM.2.2.2.2.2.1 hr hN a c
theorem PF{α:Type}{N:NP}{w:World}{Q:LV->α->Prop}{h:Au}{l:List α}(hr:BE N w 11 Q h l)(hN:∀b,N b->b < w.heap.size)(a:∀cs d,Q cs d->∀v∈cs,v.oneCell'=true)(c:l.length<=100000):Calls Tryz.prog 88 #[h.v] w (Ff w 135 11 Q l):=Dg (by kernel_rfl) CL.2.2.2.2.2.2.1 CM.2.2.2.2.2.2.1 hr hN a c
theorem PG{α:Type}{N:NP}{w:World}{Q:LV->α->Prop}{h:Au}{l:List α}(hr:BE N w 8 Q h l)(hN:∀b,N b->b < w.heap.size)(a:∀cs d,Q cs d->∀v∈cs,v.oneCell'=true)(c:l.length<=100000):Calls Tryz.prog 89 #[h.v] w (Ff w 158 8 Q l):=Dg (by kernel_rfl) CL.2.2.2.2.2.2.2.1 CM.2.2.2.2.2.2.2.1 hr hN a c
theorem PH{α:Type}{N:NP}{w:World}{Q:LV->α->Prop}{h:Au}{l:List α}(hr:BE N w 6 Q h l)(hN:∀b,N b->b < w.heap.size)(a:∀cs d,Q cs d->∀v∈cs,v.oneCell'=true)(c:l.length<=100000):Calls Tryz.prog 91 #[h.v] w (Ff w 26 6 Q l):=Dg (by kernel_rfl) CL.2.2.2.2.2.2.2.2 CM.2.2.2.2.2.2.2.2 hr hN a c
mutual
def I1(w:World)(B:NP):Ex->LV->Prop
 |.mk op n u rn ri args,cs=>∃a cap,cs=[.int .i64 op,.int .i64 n,.int .i64 u,.string rn,.int .i64 ri,.slice a args.length cap]∧args.length<=140737488355328∧rn.size<=maxLen∧DI w B a 0 args
def DI(w:World)(B:NP)(a:Option Addr):Nat->List Ex->Prop
 |_,[]=>True
 |i,e::r=>(∃g cs,a=some ⟨g,0,none⟩∧B g∧Ty w g 26∧w.rangeAt g (i*6) cs∧I1 w B e cs)∧DI w B a (i+1) r
end
theorem QC{w:World}{B:NP}{a:Option Addr}:∀ {l:List Ex} {k:Nat},(∀i (h:i < l.length),∃g cs,a=some ⟨g,0,none⟩∧B g∧Ty w g 26∧w.rangeAt g ((k+i)*6) cs∧I1 w B l[i] cs)->DI w B a k l
 |[],_,_=>by rw[DI];trivial
 |e::r,k,h=>by
  rw[DI]
  refine ⟨h 0 (by simp),QC fun i hi=>?_⟩
  obtain ⟨g,cs,h1,h2,h3,b,h5⟩:=h (i+1) (by simpa using hi)
  exact ⟨g,cs,h1,h2,h3,by rw[show k+1+i=k+(i+1) by omega];exact b,by simpa using h5⟩
theorem Ty.same{w w':World}{b t:Nat}(h:Ty w b t)(hb:w'.heap[b]?=w.heap[b]?):Ty w' b t:=by
 obtain ⟨c,e⟩:=h
 exact ⟨c,hb.trans e⟩
mutual
theorem I1.same{w w':World}{B c:NP}(d:∀b,B b->b < w.heap.size->c b)(hb:∀b,B b->b < w.heap.size->w'.heap[b]?=w.heap[b]?):∀ {e:Ex} {cs:LV},I1 w B e cs->I1 w' c e cs
 |.mk _ _ _ _ _ args,_,h=>by
  rw[I1] at h ⊢
  obtain ⟨a,cap,h1,h2,h3,f⟩:=h
  exact ⟨a,cap,h1,h2,h3,DI.same d hb f⟩
theorem DI.same{w w':World}{B d:NP}(c:∀b,B b->b < w.heap.size->d b){a:Option Addr}(hb:∀b,B b->b < w.heap.size->w'.heap[b]?=w.heap[b]?):∀ {l:List Ex} {k:Nat},DI w B a k l->DI w' d a k l
 |[],_,h=>by rw[DI];trivial
 |e::r,k,h=>by
  rw[DI] at h ⊢
  obtain ⟨⟨g,cs,h1,h2,h3,f,h5⟩,h6⟩:=h
  exact ⟨⟨g,cs,h1,c g h2 h3.lt,h3.same (hb g h2 h3.lt),A0 f (hb g h2 h3.lt),I1.same c hb h5⟩,DI.same c hb h6⟩
end
theorem I1.mk'{w:World}{B:NP}{e:Ex}{a:Option Addr}{cap:Nat}(h1:e.args.length<=140737488355328)(h2:e.rn.size<=maxLen)(h3:DI w B a 0 e.args):
  I1 w B e [.int .i64 e.op,.int .i64 e.n,.int .i64 e.u,.string e.rn,.int .i64 e.ri,.slice a e.args.length cap]:=by
 cases e
 rw[I1]
 exact ⟨a,cap,rfl,h1,h2,h3⟩
def Wh(W:World)(b o:Nat)(args:List Ex)(w':World):Prop:=
 W.grownBy w' (some b)∧(∀p,p≠o+5->w'.cell? ⟨b,p,none⟩=W.cell? ⟨b,p,none⟩)∧(∀t,Ty W b t->Ty w' b t)∧∃a cap,w'.cell? ⟨b,o+5,none⟩=some (.slice a args.length cap)∧DI w' (fun b=>W.heap.size<=b) a 0 args
mutual
def FZ:Ex->Prop
 |.mk _ _ _ _ _ args=>args.length<=100000∧GZ args
def GZ:List Ex->Prop
 |[]=>True
 |e::r=>FZ e∧GZ r
end
theorem Mh:∀ {l:List Ex},GZ l->∀i (h:i < l.length),FZ l[i]
 |[],_,i,h=>by simp at h
 |e::r,hl,0,_=>by rw[GZ] at hl;exact hl.1
 |e::r,hl,i+1,h=>by rw[GZ] at hl;exact Mh hl.2 i (by simpa using h)
theorem IF{W w':World}{b c p:Nat}(h:W.grownBy w' (some b))(d:c < W.heap.size)(a:c≠b):w'.cell? ⟨c,p,none⟩=W.cell? ⟨c,p,none⟩:=by
 unfold World.cell?
 rw[h.block c d (fun e=>a (by cases e;rfl))]
theorem Ty.frozen{w:World}{b t p:Nat}(h:Ty w b t):w.frozen? ⟨b,p,none⟩=false:=by
 obtain ⟨c,e⟩:=h
 simp[World.frozen?,e]
theorem Ac{W:World}{b p:Nat}{u:Value}(v:Value)(f:W.cell? ⟨b,p,none⟩=some u):
  W.grownBy (W.setCell ⟨b,p,none⟩ v) (some b)∧(∀q,q≠p->(W.setCell ⟨b,p,none⟩ v).cell? ⟨b,q,none⟩=W.cell? ⟨b,q,none⟩)∧(∀t,Ty W b t->Ty (W.setCell ⟨b,p,none⟩ v) b t)∧(W.setCell ⟨b,p,none⟩ v).cell? ⟨b,p,none⟩=some v:=by
 refine ⟨⟨rfl,rfl,rfl,by simp,fun i _ a=>zk W (aV b p) i v (fun e=>a (by rw[e]))⟩,fun q d=>World.cell?_setCell_other _ _ _ _ (fun e=>d (by cases e;rfl)),?_,World.cell?_setCell_same _ _ _ f⟩
 rintro t ⟨c,e⟩
 exact ⟨_,zp W b p c t v e⟩
structure Uc (W:World) (N:Nat->Prop) (b o:Nat) (a:Option Addr) (c:Nat) (args:List Ex) (i:Nat) (wr:World):Prop where
 grown:W.grownBy wr (some b)
 cells:∀p,p≠o+5->wr.cell? ⟨b,p,none⟩=W.cell? ⟨b,p,none⟩
 hdr:wr.cell? ⟨b,o+5,none⟩=some (.slice a args.length c)
 ty:∀t,Ty W b t->Ty wr b t
 rows:∀j (h:j < args.length),∃g cs,a=some ⟨g,0,none⟩∧W.heap.size<=g∧Ty wr g 26∧wr.rangeAt g (j*6) cs∧((j < i∧I1 wr (fun b=>g+1<=b) args[j] cs)∨(i<=j∧AG N wr args[j] cs))
theorem Uc.drew{W:World}{N:NP}{b o:Nat}{a:Option Addr}{c:Nat}{args:List Ex}{i:Nat}{wr:World}(h:Uc W N b o a c args i wr):Uc W N b o a c args i wr.drew:=by
 refine ⟨⟨h.grown.os,h.grown.tape,h.grown.output,h.grown.size,h.grown.block⟩,h.cells,h.hdr,h.ty,fun j e=>?_⟩
 obtain ⟨g,cs,h1,h2,h3,d,h5⟩:=h.rows j e
 refine ⟨g,cs,h1,h2,h3,d,h5.imp (fun h=>⟨h.1,I1.same (w:=wr) (w':=wr.drew) (fun _ h _=>h) (fun _ _ _=>rfl) h.2⟩) (fun h=>⟨h.1,AG.same (w:=wr) (w':=wr.drew) (fun _ h=>h) (fun _ _=>rfl) h.2⟩)⟩
theorem Uc.next{W:World}{N:NP}{b o:Nat}{a:Option Addr}{c:Nat}{args:List Ex}{i:Nat}{wr w4:World}(h:Uc W N b o a c args i wr)(hi:i < args.length)(hb:b < W.heap.size)(hN:∀c,N c->c < W.heap.size∧c≠b){g:Nat}(J:a=some ⟨g,0,none⟩)
 (u:Wh wr g (i*6) args[i].args w4):Uc W N b o a c args (i+1) w4:=by
 obtain ⟨f,l,H,a',G,k4,L⟩:=u
 obtain ⟨X,cs,h1,h2,h3,h4,h5⟩:=h.rows i hi
 obtain rfl:g=X:=by rw[J] at h1;cases h1;rfl
 have U:=h.grown.size
 have w:b≠g:=by omega
 have T:=h3.lt
 have I:w4.heap[b]?=wr.heap[b]?:=f.block b (by omega) (fun e=>w (by cases e;rfl))
 have C:∀p,w4.cell? (aV b p)=wr.cell? (aV b p):=fun p=>by unfold World.cell?;rw[I]
 refine ⟨⟨f.os.trans h.grown.os,f.tape.trans h.grown.tape,f.output.trans h.grown.output,yu U f.size,fun q M z=>(f.block q (by omega) (fun e=>by cases e;omega)).trans (h.grown.block q M z)⟩,fun p P=>(C p).trans (h.cells p P),(C _).trans h.hdr,fun t S=>(h.ty t S).same I,fun j Q=>?_⟩
 obtain ⟨g1,K,n,D,F,A,d⟩:=h.rows j Q
 obtain rfl:g=g1:=by rw[J] at n;cases n;rfl
 by_cases s:j=i
 ·subst s
  rcases d with ⟨d,_⟩|⟨_,d⟩
  ·omega
  obtain ⟨a0,E,rfl,V,R,e3⟩:=d.cells
  obtain ⟨r0,r1,r2,Y,Z,r5⟩:=Bp A
  refine ⟨g,_,n,D,H _ F,A6 ((l _ (by omega)).trans r0) (A6 ((l _ (by omega)).trans r1) (A6 ((l _ (by omega)).trans r2) (A6 ((l _ (by omega)).trans Y) (A6 ((l _ (by omega)).trans Z) (BU k4))))),.inl ⟨by omega,I1.mk' V R (L.same (fun x m _=>by have:wr.heap.size<=x:=m;show g+1<=x;omega) (fun _ _ _=>rfl))⟩⟩
 ·refine ⟨g,K,n,D,H _ F,fun k v B=>?_,?_⟩
  ·have hl:k < 6:=by
    have h1:=(yA.1 B).1
    rcases d with ⟨_,d⟩|⟨_,d⟩
    ·cases O:args[j] with
     |mk=>rw[O,I1] at d;obtain ⟨_,_,rfl,_⟩:=d;simpa using h1
    ·rw[d.len] at h1;exact h1
   exact (l _ (by omega)).trans (A k v B)
  ·rcases d with ⟨d,r⟩|⟨d,r⟩
   ·exact .inl ⟨by omega,r.same (fun _ h _=>h) (fun x m y=>f.block x y (fun e=>by cases e;have:g+1<=g:=m;omega))⟩
   ·exact .inr ⟨by omega,r.same (fun _ h=>h) (fun x m=>f.block x (by have:=(hN x m).1;omega) (fun e=>by cases e;have:=(hN g m).1;omega))⟩
theorem SW(N:NP)(Bx:Nat):∀(e:Ex) (b o t:Nat) (cs:LV) (W:World),AG N W e cs->W.rangeAt b o cs->Ty W b t->FZ e->(∀c,N c->c < W.heap.size∧c≠b)->Bx≠b->W.cell? ⟨Bx,0,none⟩=some (.func (.func 90) #[] #[.pointer (some ⟨Bx,0,none⟩)])->
  Calls Tryz.prog 90 #[.pointer (some ⟨b,o,none⟩),.pointer (some ⟨Bx,0,none⟩)] W fun x w'=>x=.returned (.tuple #[])∧Wh W b o e.args w':=by
 refine J3 fun op nn u rn ri args ih=>?_
 intro b o t cs W U T ty z hN Z s
 rw[AG] at U
 obtain ⟨a,cap,rfl,hl,hr,E⟩:=U
 rw[FZ] at z
 obtain ⟨-, -, -, -, -,c5⟩:=Bp T
 have Q:BE N W 6 (fun c d=>AG N W d c) ⟨a,args.length,cap⟩ args:=⟨rfl,hl,fun i hi=>by
  obtain ⟨b',o',c,g1,g2,g3,g4⟩:=Du E i hi
  exact ⟨b',o',c,g1,g2,g4.len,by rw[yy] at g3;exact g3,g4⟩⟩
 have y:=PH Q (fun c hc=>(hN c hc).1) (fun c d h=>Bm h) z.1
 have a8:=yb y
 have IH:=yb ih
 have HN:=yb hN
 have a2:=yb ty
 have a0:=yb z.2
 have af:=yb z.1
 have ae:=yb (yQ W _ s)
 have r:=yb (yQ W _ c5)
 have V:=yb Z
 have w:=yb s
 show Calls _ _ _ _ (fun x w'=>x=.returned (.tuple #[])∧Wh W b o args w')
 clear Q y ih hN ty z T E s Z hl hr
 go_enter Tryz.func90,Tryz.ntmps90
 go_wp2_with (first|(go_at_call 91;refine a8.o.mono ?_;rintro e w1 ⟨⟨l,n',f⟩,rfl,H,B,n⟩;rw[show Au.v ⟨l,n',f⟩=Value.slice l n' f from rfl];simp only at H n;have d5:=(B.cell (p:=(aV b (o+5))) r.o).trans c5;have df:=(Ty.same a2.o (B.block b r.o)).frozen (p:=o+5);have m:=yb B;have M:=yb H;have A:=yb n;clear B H n))
 obtain rfl:=M.o.symm
 have hI:Uc W N b o l f args 0 (w1.setCell (aV b (o+5)) (.slice l args.length f)):=by
  obtain ⟨I,s2,s3,s4⟩:=Ac (.slice l args.length f) d5
  have ad:=m.o.size
  refine ⟨⟨I.os.trans m.o.os,I.tape.trans m.o.tape,I.output.trans m.o.output,yu ad I.size,fun q hq a6=>(I.block q (by omega) a6).trans (m.o.block q hq)⟩,fun p hp=>(s2 p hp).trans (m.o.cell (p:=(aV b p)) r.o),s4,fun t ht=>s3 t (ht.same (m.o.block b r.o)),fun j hj=>?_⟩
  obtain ⟨g,cs,q1,q2,G,O,K,q6⟩:=A.o j hj
  have aa:g≠b:=by have:=r.o;omega
  have hg:(w1.setCell (aV b (o+5)) (.slice l args.length f)).heap[g]?=w1.heap[g]?:=I.block g G.lt (fun e=>aa (by cases e;rfl))
  refine ⟨g,cs,q1,q2,G.same hg,A0 K hg,.inr ⟨yK _,q6.same (fun _ h=>h) (fun x hx=>?_)⟩⟩
  have Y:=HN.o x hx
  exact (I.block x (by omega) (fun e=>Y.2 (by cases e;rfl))).trans (m.o.block x Y.1)
 have L:=yb hI
 have ah:args.length<=100000:=af.o
 clear hI d5 df c5
 generalize w1.setCell (aV b (o+5)) (.slice l args.length f)=w2 at*
 have e5:=L.o.hdr
 clear m A M
 go_wp2
 clear e5
 go_loopw [17] (fun iv wr=>∃i:Nat,i<=args.length∧iv=iV i∧Hid (Uc W N b o l f args i wr)) (fun iv _=>args.length - (intOf iv).toNat)
 case atStart=>exact ⟨0,yK _,rfl,L⟩
 case round=>
  obtain ⟨i,hi,rfl,k⟩:=hrel
  by_cases C:i < args.length
  ·obtain ⟨g,cs,rfl,q2,G,O,K⟩:=k.o.drew.rows i C
   have U:AG N wr.drew args[i] cs:=K.elim (fun h=>by omega) (fun h=>h.2)
   have hz:=k.o.grown.size
   have P:=r.o
   have J:=ae.o
   have D:wr.drew.cell? (aV Bx 0)=some (.func (.func 90) #[] #[pV Bx 0]):=(IF k.o.grown J V.o).trans w.o
   have F:=IH.o args[i] (yM C) g (i*6) 26 cs wr.drew U O G (Mh a0.o i C) (fun c hc=>by have:=HN.o c hc;show c < wr.heap.size∧_;omega) (by omega) D
   have X:=yb F
   have ac:(i:Int) < (args.length:Int):=by omega
   have S:=fun w4=>k.o.drew.next (w4:=w4) C P HN.o rfl
   have ag:=yb S
   have e5:=k.o.hdr
   have eB:wr.cell? (aV Bx 0)=some (.func (.func 90) #[] #[pV Bx 0]):=D
   have a7:Hid (wr.drew.cell? (aV Bx 0)=some (.func (.func 90) #[] #[pV Bx 0])∧wr.drew.cell? (aV b (o+5))=some (.slice (some (aV g 0)) args.length f)):=yb ⟨D,e5⟩
   have HQ:Hid (∀w4,Uc W N b o (some (aV g 0)) f args (i+1) w4->w4.cell? (aV Bx 0)=some (.func (.func 90) #[] #[pV Bx 0])∧w4.cell? (aV b (o+5))=some (.slice (some (aV g 0)) args.length f)):=yb (fun w4 h=>⟨(IF h.grown J V.o).trans w.o,h.hdr⟩)
   clear U q2 G O K hz P J D F S
   go_wp2_with fail
   go_region_held3 (fun w'=>w'.cell? (aV Bx 0)=some (.func (.func 90) #[] #[pV Bx 0])∧w'.cell? (aV b (o+5))=some (.slice (some (aV g 0)) args.length f)) (first|exact a7.o|exact ab.o)
    (first|(go_at_call 90;refine X.o.mono ?_;rintro e w4 ⟨rfl,y⟩;have R:=yb (ag.o w4 y);have ab:=yb (HQ.o w4 R.o);clear y))
   go_wp2
   exact ⟨⟨i+1,by omega,by push_cast;rfl,R⟩,by simp[intOf];omega⟩
  ·obtain rfl:i=args.length:=by omega
   have ac:decide ((args.length:Int) < (args.length:Int))=false:=by simp
   go_wp2
   go_end0
   refine ⟨rfl,k.o.grown,k.o.cells,k.o.ty,l,f,k.o.hdr,QC fun j hj=>?_⟩
   obtain ⟨g,cs,q1,q2,G,O,K⟩:=k.o.rows j hj
   rw[yy]
   exact ⟨g,cs,q1,q2,G,O,K.elim (fun h=>h.2.same (fun x hx _=>by have:g+1<=x:=hx;show W.heap.size<=x;omega) (fun _ _ _=>rfl)) (fun h=>by omega)⟩
theorem QD:∀(e:Ex) {N N':NP} {w:World} {d:Ex} {cs:LV},AG N w e cs->AG N' w d cs->e=d:=by
 refine J3 fun op nn u rn ri args ih=>?_
 intro N N' w d cs h m
 cases d with
 |mk op' nn' u' rn' ri' args'=>
  rw[AG] at h m
  obtain ⟨a,cap,rfl,_,_,hr⟩:=h
  obtain ⟨A,q,l,_,_,k⟩:=m
  simp only[xU,Value.int.injEq,Value.string.injEq,qv,true_and,and_true] at l
  obtain ⟨rfl,rfl,rfl,rfl,rfl,rfl,s,rfl⟩:=l
  have:args=args':=by
   refine xD s fun i hi f=>?_
   obtain ⟨b,o,c,g1,_,v,p⟩:=Du hr i hi
   obtain ⟨C,B,y,n,_,x,r⟩:=Du k i f
   rw[g1] at n
   cases n
   have z:c=y:=by
    refine xD (by rw[p.len,r.len]) fun j t g=>?_
    have h1:=v j _ (yk t)
    have h2:=x j _ (yk g)
    rw[h1] at h2
    exact yi h2
   subst z
   exact ih _ (yM hi) p r
  rw[this]
mutual
theorem I1.exV{w:World}{M N:NP}(hM:∀b,M b->b < w.heap.size->N b):∀ {e:Ex} {cs:LV},I1 w M e cs->AG N w e cs
 |.mk _ _ _ _ _ args,_,h=>by
  rw[I1] at h
  rw[AG]
  obtain ⟨a,cap,h1,h2,h3,c⟩:=h
  exact ⟨a,cap,h1,h2,h3,DI.rowV hM c⟩
theorem DI.rowV{w:World}{M N:NP}{a:Option Addr}(hM:∀b,M b->b < w.heap.size->N b):∀ {l:List Ex} {k:Nat},DI w M a k l->D8 N w a k l
 |[],_,h=>by rw[D8];trivial
 |e::r,k,h=>by
  rw[DI] at h
  rw[D8]
  obtain ⟨⟨g,cs,h1,h2,h3,c,h5⟩,h6⟩:=h
  exact ⟨⟨g,0,cs,h1,hM g h2 h3.lt,by rw[yy];exact c,I1.exV hM h5⟩,DI.rowV hM h6⟩
end
def GI{α:Type}(B:Nat)(W:World)(t sz:Nat)(Q:LV->α->Prop)(h:Au)(l:List α):Prop:=
 h.n=l.length∧∀i (hi:i < l.length),∃g cs,h.a=some ⟨g,0,none⟩∧B<=g∧Ty W g t∧cs.length=sz∧W.rangeAt g (i*sz) cs∧Q cs l[i]
theorem GI.of{α:Type}{B b:Nat}{W:World}{t sz:Nat}{Q:LV->α->Prop}{h:Au}{l:List α}(c:h.n=l.length)(d:B<=b)(hr:∀i (hi:i < l.length),∃g cs,h.a=some ⟨g,0,none⟩∧b<=g∧Ty W g t∧cs.length=sz∧W.rangeAt g (i*sz) cs∧Q cs l[i]):GI B W t sz Q h l:=
 ⟨c,fun i hi=>by
  obtain ⟨g,cs,h1,h2,h3⟩:=hr i hi
  exact ⟨g,cs,h1,yu d h2,h3⟩⟩
theorem GI.up{α:Type}{B:Nat}{W W':World}{t sz:Nat}{Q:LV->α->Prop}{h:Au}{l:List α}(hr:GI B W t sz Q h l)(hb:∀b,B<=b->b < W.heap.size->W'.heap[b]?=W.heap[b]?):GI B W' t sz Q h l:=
 ⟨hr.1,fun i hi=>by
  obtain ⟨g,cs,h1,h2,h3,a,h5,h6⟩:=hr.2 i hi
  exact ⟨g,cs,h1,h2,h3.same (hb g h2 h3.lt),a,A0 h5 (hb g h2 h3.lt),h6⟩⟩
theorem GI.upT{α:Type}{B:Nat}{W W':World}{t sz:Nat}{Q:LV->α->Prop}{h:Au}{l:List α}(hr:GI B W t sz Q h l)(hb:∀b,B<=b->Ty W b t->W'.heap[b]?=W.heap[b]?):GI B W' t sz Q h l:=
 ⟨hr.1,fun i hi=>by
  obtain ⟨g,cs,h1,h2,h3,a,h5,h6⟩:=hr.2 i hi
  exact ⟨g,cs,h1,h2,h3.same (hb g h2 h3),a,A0 h5 (hb g h2 h3),h6⟩⟩
theorem Cf{w:World}{b o:Nat}{v:Value}{l:LV}(h:w.rangeAt b o (v::l)):w.cell? ⟨b,o,none⟩=some v∧w.rangeAt b (o+1) l:=
 ⟨h 0 v rfl,fun j u a=>by have:=h (j+1) u (by simpa using a);rw[show o+1+j=o+(j+1) by omega];exact this⟩
theorem Mi{w:World}{b o:Nat}{l m:LV}(h:w.rangeAt b o (l++m)):w.rangeAt b o l∧w.rangeAt b (o+l.length) m:=
 ⟨fun j u a=>h j u (by rw[zn (yA.1 a).1];exact a),fun j u a=>by
  have:=h (l.length+j) u (by rw[yU (by omega),zW];exact a)
  rw[show o+l.length+j=o+(l.length+j) by omega];exact this⟩
theorem BV{w:World}{b o:Nat}{c l:LV}(a:c.length=6)(h:w.rangeAt b o (c++l)):w.rangeAt b o c∧w.rangeAt b (o+6) l:=by
 have:=Mi h
 rw[a] at this;exact this
theorem E3{w:World}{b o:Nat}{r:Rf}{l:LV}(hs:r.name.size<=maxLen)(to:Int)(h:w.rangeAt b o (AU r++l)):RV w to r b o∧w.rangeAt b (o+2) l:=by
 obtain ⟨h1,h2⟩:=Mi h
 exact ⟨⟨hs,h1 0 _ rfl,h1 1 _ rfl⟩,h2⟩
section
variable{N N':NP}{w W:World}{B:Nat}{h:Au}
theorem D4(hb:∀b,N b->W.heap[b]?=w.heap[b]?){e:Ex}{c:LV}{b o:Nat}(lt:Int)(a:AG N w e c)(hr:W.rangeAt b o c):EV N W lt e b o:=⟨c,hr,a.same (fun _ h=>h) hb⟩
theorem Gr{α:Type}{t sz:Nat}{Q:LV->α->Prop}{P:Nat->Nat->Nat->α->Prop}{l:List α}(hr:GI B W t sz Q h l)(c:l.length<=100000)(hN:∀g,B<=g->N' g)(b:∀i (_:i < l.length) g cs,h.a=some ⟨g,0,none⟩->W.rangeAt g (i*sz) cs->Q cs l[i]->P i g (i*sz) l[i]):Ej N' W t sz P h l:=
 ⟨hr.1,by omega,fun i hi=>by
  obtain ⟨g,cs,h1,h2,h3,d,h5,h6⟩:=hr.2 i hi
  exact ⟨g,h1,hN g h2,h3,b i hi g cs h1 h5 h6⟩⟩
variable(hb:∀b,N b->W.heap[b]?=w.heap[b]?)
include hb
theorem RD(i g o:Nat)(cs:LV)(d:Gh)(hr:W.rangeAt g o cs)(h:JS N w cs d):VA (EV N W) W i g o d:=by
 obtain ⟨h1,c,rfl,h2⟩:=h
 obtain ⟨a,r1⟩:=Cf hr
 exact ⟨⟨h1,a⟩,D4 hb _ h2 r1⟩
theorem PI(i g o:Nat)(cs:LV)(d:DN)(hr:W.rangeAt g o cs)(h:I6 N w cs d):US (EV N W) W i g o d:=by
 obtain ⟨h1,c,rfl,h2⟩:=h
 obtain ⟨a,r1⟩:=Cf hr
 exact ⟨⟨h1,a⟩,D4 hb _ h2 r1⟩
theorem O1(i g o:Nat)(cs:LV)(d:AA)(hr:W.rangeAt g o cs)(h:F8 N w cs d):SQ (EV N W) (RV W) W i g o d:=by
 obtain ⟨h1,h2,c0,c1,c2,c3,c4,c5,c6,c7,rfl,j,g1,b,e,c,a,k,u⟩:=h
 obtain ⟨t,r⟩:=Cf hr
 obtain ⟨f,r⟩:=E3 h2 (if i=0 then 0 else 6) r
 obtain ⟨v,r⟩:=BV j.len r
 obtain ⟨s,r⟩:=BV g1.len r
 obtain ⟨m,r⟩:=BV b.len r
 obtain ⟨q,r⟩:=BV e.len r
 obtain ⟨l,r⟩:=BV c.len r
 obtain ⟨x,r⟩:=BV a.len r
 obtain ⟨p,n⟩:=BV k.len r
 exact ⟨⟨h1,t⟩,f,D4 hb _ j v,D4 hb _ g1 s,D4 hb _ b m,D4 hb _ e q,D4 hb _ c l,D4 hb _ a x,D4 hb _ k p,D4 hb _ u n⟩
theorem PJ(i g o:Nat)(cs:LV)(d:CE)(hr:W.rangeAt g o cs)(h:I7 N w cs d):UT (EV N W) (RV W) W i g o d:=by
 obtain ⟨h1,h2,h3,c0,rfl,a⟩:=h
 obtain ⟨c,r⟩:=Cf hr
 obtain ⟨f,r⟩:=E3 h2 4 r
 obtain ⟨v,r⟩:=Cf r
 obtain ⟨e,r⟩:=BV a.len r
 obtain ⟨b,_⟩:=E3 (l:=[]) h3 (if d.river then 0 else 3) (by rw[yV];exact r)
 exact ⟨⟨h1,c⟩,f,v,D4 hb _ a e,b⟩
theorem PK(i g o:Nat)(cs:LV)(d:Cb)(hr:W.rangeAt g o cs)(h:Ft N w cs d):UU (EV N W) (RV W) i g o d:=by
 obtain ⟨h1,c0,rfl,a⟩:=h
 obtain ⟨f,r⟩:=E3 h1 5 hr
 exact ⟨f,D4 hb _ a r⟩
theorem O4(i g o:Nat)(cs:LV)(d:AW)(hr:W.rangeAt g o cs)(h:F9 N w cs d):SS (EV N W) (RV W) W i g o d:=by
 obtain ⟨h1,h2,h3,c0,c1,c2,c3,c4,rfl,c,g1,a,b,n⟩:=h
 obtain ⟨k,r⟩:=Cf hr
 obtain ⟨q,r⟩:=Cf r
 obtain ⟨f,r⟩:=E3 h2 5 r
 obtain ⟨j,r⟩:=E3 h3 (if d.kind=1 then 0 else 4) r
 obtain ⟨v,r⟩:=Cf r
 obtain ⟨s,r⟩:=BV c.len r
 obtain ⟨p,r⟩:=BV g1.len r
 obtain ⟨l,r⟩:=BV a.len r
 obtain ⟨m,e⟩:=BV b.len r
 exact ⟨k,⟨h1,q⟩,f,j,v,D4 hb _ c s,D4 hb _ g1 p,D4 hb _ a l,D4 hb _ b m,D4 hb _ n e⟩
theorem PL(i g o:Nat)(cs:LV)(d:CU)(hr:W.rangeAt g o cs)(h:I8 N w cs d):UW (EV N W) (RV W) W i g o d:=by
 obtain ⟨h1,h2,h3,c0,rfl,a⟩:=h
 obtain ⟨b,r⟩:=Cf hr
 obtain ⟨f,r⟩:=E3 h2 5 r
 obtain ⟨c,r⟩:=E3 h3 4 r
 exact ⟨⟨h1,b⟩,f,c,D4 hb _ a r⟩
end
structure MS (x:Av):Prop where
 lets:x.lets.length<=100000
 crops:x.crops.length<=100000
 reaches:x.reaches.length<=100000
 farms:x.farms.length<=100000
 rots:x.rots.length<=100000
 rights:x.rights.length<=100000
 duties:x.duties.length<=100000
 turns:∀d∈x.rots,d.turns.length<=100000
 exprs:∀e∈Ax x,FZ e.1
theorem SX{N N':NP}{w U W:World}{B:Nat}{L L':Bt}{l:List Br}(hb:∀b,N b->W.heap[b]?=w.heap[b]?)(hr:GI B U 109 23 (fun cs (d:Br × Nat)=>GW N w (A2 L d.2) cs d.1) L'.rots l.zipIdx)(hN:∀g,B<=g->N' g)(Q:l.length<=100000)
 (p:∀d∈l,d.turns.length<=100000)(y:∀g,L'.rots.a=some ⟨g,0,none⟩->Ty U g 109->Ty W g 109)(M:∀g,L'.rots.a=some ⟨g,0,none⟩->∀i q,q < 22->W.cell? ⟨g,i*23+q,none⟩=U.cell? ⟨g,i*23+q,none⟩)
 (H:∀i (_:i < l.length) g,L'.rots.a=some ⟨g,0,none⟩->W.cell? ⟨g,i*23+22,none⟩=some (A2 L' i).v)(G:∀i (h:i < l.length),GI B W 158 8 (Ft N w) (A2 L' i) l[i].turns):
  Ej N' W 109 23 (V7 N' (EV N W) (RV W) W (A2 L')) L'.rots l:=by
 refine ⟨by have:=hr.1;rwa [zC] at this,by omega,fun i hi=>?_⟩
 obtain ⟨g,cs,n,E,I,R,C,t⟩:=hr.2 i (by rw[zC];exact hi)
 rw[qj] at t
 simp only[yy] at t
 refine ⟨g,n,hN g E,y g n I,?_⟩
 obtain ⟨h1,h2,c0,c1,c2,rfl,x,g1,z,_⟩:=t
 have s:W.rangeAt g (i*23) (.string l[i].name::(AU l[i].on++(iV l[i].rank::(c0++(c1++c2))))):=fun j u A=>by
  have m:=(yA.1 A).1
  have c:(Value.string l[i].name::(AU l[i].on++(iV l[i].rank::(c0++(c1++c2))))).length=22:=by simp[Aw,x.len,g1.len,z.len]
  rw[c] at m
  rw[M g n i j m]
  refine C j u ?_
  have e:(Value.string l[i].name::(AU l[i].on++(iV l[i].rank::(c0++(c1++(c2++[(A2 L i).v]))))))=(Value.string l[i].name::(AU l[i].on++(iV l[i].rank::(c0++(c1++c2)))))++[(A2 L i).v]:=by simp
  rw[e,zn (by omega)]
  exact A
 obtain ⟨K,r⟩:=Cf s
 obtain ⟨f,r⟩:=E3 h2 4 r
 obtain ⟨v,r⟩:=Cf r
 obtain ⟨O,r⟩:=BV x.len r
 obtain ⟨J,F⟩:=BV g1.len r
 exact ⟨⟨h1,K⟩,f,v,D4 hb _ x O,D4 hb _ g1 J,D4 hb _ z F,H i hi g n,Gr (G i hi) (p _ (yM hi)) hN (fun k P g cs _ o D=>PK hb k g (k*8) cs _ o D)⟩
theorem PM{N N':NP}{w W:World}{B:Nat}{L:Bt}{x:Av}{d a1 f:Option Addr}{e c h:Nat}(hb:∀b,N b->W.heap[b]?=w.heap[b]?)(hN:∀g,B<=g->N' g)(hs:MS x)
 (k:W.heap[L.s]?=some (.cells #[.string x.name,.int .i64 x.season.op,.int .i64 x.season.n,.int .i64 x.season.u,.string x.season.rn,.int .i64 x.season.ri,.slice d x.season.args.length e,.int .i64 x.cap.op,.int .i64 x.cap.n,.int .i64 x.cap.u,.string x.cap.rn,.int .i64 x.cap.ri,.slice a1 x.cap.args.length c,.int .i64 x.start.op,.int .i64 x.start.n,.int .i64 x.start.u,.string x.start.rn,.int .i64 x.start.ri,.slice f x.start.args.length h,L.lets.v,L.crops.v,L.reaches.v,L.farms.v,L.rots.v,L.rights.v,L.duties.v] 35 (0,0)))(q:x.name.size<=maxLen)(h0:AG N w x.season [.int .i64 x.season.op,.int .i64 x.season.n,.int .i64 x.season.u,.string x.season.rn,.int .i64 x.season.ri,.slice d x.season.args.length e])(h1:AG N w x.cap [.int .i64 x.cap.op,.int .i64 x.cap.n,.int .i64 x.cap.u,.string x.cap.rn,.int .i64 x.cap.ri,.slice a1 x.cap.args.length c])(h2:AG N w x.start [.int .i64 x.start.op,.int .i64 x.start.n,.int .i64 x.start.u,.string x.start.rn,.int .i64 x.start.ri,.slice f x.start.args.length h])
 (t:GI B W 50 7 (JS N w) L.lets x.lets)(rc:GI B W 92 7 (I6 N w) L.crops x.crops)(o:GI B W 66 51 (F8 N w) L.reaches x.reaches)(m:GI B W 94 12 (I7 N w) L.farms x.farms)
 (r:Ej N' W 109 23 (V7 N' (EV N W) (RV W) W (A2 L)) L.rots x.rots)(ri:GI B W 131 37 (F9 N w) L.rights x.rights)(p:GI B W 135 11 (I8 N w) L.duties x.duties):C8 N' (EV N W) (RV W) W L x:=by
 have cell:∀j v,#[.string x.name,iV x.season.op,iV x.season.n,iV x.season.u,.string x.season.rn,iV x.season.ri,.slice d x.season.args.length e,iV x.cap.op,iV x.cap.n,iV x.cap.u,.string x.cap.rn,iV x.cap.ri,.slice a1 x.cap.args.length c,iV x.start.op,iV x.start.n,iV x.start.u,.string x.start.rn,iV x.start.ri,.slice f x.start.args.length h,L.lets.v,L.crops.v,L.reaches.v,L.farms.v,L.rots.v,L.rights.v,L.duties.v][j]?=some v->W.cell? (aV L.s j)=some v:=fun j v l=>by simp only[World.cell?,k];simpa using l
 refine ⟨⟨_,k⟩,⟨q,cell 0 _ rfl⟩,?_,?_,?_,cell 19 _ rfl,cell 20 _ rfl,cell 21 _ rfl,cell 22 _ rfl,cell 23 _ rfl,cell 24 _ rfl,cell 25 _ rfl,?_,?_,?_,?_,r,?_,?_⟩
 ·exact D4 hb 0 h0 (A6 (cell 1 _ rfl) (A6 (cell 2 _ rfl) (A6 (cell 3 _ rfl) (A6 (cell 4 _ rfl) (A6 (cell 5 _ rfl) (BU (cell 6 _ rfl)))))))
 ·exact D4 hb 0 h1 (A6 (cell 7 _ rfl) (A6 (cell 8 _ rfl) (A6 (cell 9 _ rfl) (A6 (cell 10 _ rfl) (A6 (cell 11 _ rfl) (BU (cell 12 _ rfl)))))))
 ·exact D4 hb 0 h2 (A6 (cell 13 _ rfl) (A6 (cell 14 _ rfl) (A6 (cell 15 _ rfl) (A6 (cell 16 _ rfl) (A6 (cell 17 _ rfl) (BU (cell 18 _ rfl)))))))
 ·exact Gr t hs.lets hN (fun i _ g cs _ hr a=>RD hb i g _ cs _ hr a)
 ·exact Gr rc hs.crops hN (fun i _ g cs _ hr a=>PI hb i g _ cs _ hr a)
 ·exact Gr o hs.reaches hN (fun i _ g cs _ hr a=>O1 hb i g _ cs _ hr a)
 ·exact Gr m hs.farms hN (fun i _ g cs _ hr a=>PJ hb i g _ cs _ hr a)
 ·exact Gr ri hs.rights hN (fun i _ g cs _ hr a=>O4 hb i g _ cs _ hr a)
 ·exact Gr p hs.duties hN (fun i _ g cs _ hr a=>PL hb i g _ cs _ hr a)
theorem CH{α:Type}{f:Nat->α->α}(h:∀i a,f i a=a)(l:List α):l.mapIdx f=l:=by
 refine xD (by simp) fun i h1 h2=>?_
 rw[List.getElem_mapIdx];exact h _ _
theorem VB(x:Av):x.mp (fun _ e=>e) (fun _ r=>r)=x:=by
 unfold Av.mp
 have h1:=CH (f:=Gh.mp fun _ e=>e) (fun _ _=>rfl) x.lets
 have h2:=CH (f:=DN.mp fun _ e=>e) (fun _ _=>rfl) x.crops
 have h3:=CH (f:=AA.mp (fun _ e=>e) fun _ r=>r) (fun _ _=>rfl) x.reaches
 have a:=CH (f:=CE.mp (fun _ e=>e) fun _ r=>r) (fun _ _=>rfl) x.farms
 have h5:=CH (f:=Br.mp (fun _ e=>e) fun _ r=>r) (fun _ d=>by
  unfold Br.mp
  rw[CH (f:=Cb.mp (fun _ e=>e) fun _ r=>r) (fun _ _=>rfl) d.turns]) x.rots
 have h6:=CH (f:=AW.mp (fun _ e=>e) fun _ r=>r) (fun _ _=>rfl) x.rights
 have b:=CH (f:=CU.mp (fun _ e=>e) fun _ r=>r) (fun _ _=>rfl) x.duties
 rw[h1,h2,h3,a,h5,h6,b]
section
variable{N:NP}{E E':Int->Ex->Nat->Nat->Prop}{R R':Int->Rf->Nat->Nat->Prop}{w w':World}{L:Bt}{x:Av}
theorem C8.imp(h:C8 N E R w L x)(a:∀b t,(N b∨b=L.s)->Ty w b t->Ty w' b t)(c:∀b o,(N b∨b=L.s)->NV w b o->w'.cell? ⟨b,o,none⟩=w.cell? ⟨b,o,none⟩)
 (d:∀lt e b o,(N b∨b=L.s)->Gp w b o->E lt e b o->E' lt e b o)(hr:∀to r b o,(N b∨b=L.s)->PA w b o->R to r b o->R' to r b o):C8 N E' R' w' L x:=by
 have:=h.map (f:=fun _ e=>e) (g:=fun _ r=>r) a c d hr
 rwa [VB] at this
theorem Ab{w w':World}{b o:Nat}(h:w'.heap[b]?=w.heap[b]?):w'.cell? ⟨b,o,none⟩=w.cell? ⟨b,o,none⟩:=by
 unfold World.cell?;rw[h]
theorem Gp.lt{b o:Nat}(h:Gp w b o):b < w.heap.size:=by obtain ⟨t,h,_⟩:=h;exact h.lt
theorem PA.lt{b o:Nat}(h:PA w b o):b < w.heap.size:=by obtain ⟨t,h,_⟩:=h;exact h.lt
theorem NV.lt{b o:Nat}(h:NV w b o):b < w.heap.size:=by obtain ⟨t,h,_⟩:=h;exact h.lt
theorem C8.up{M:NP}(h:C8 N (EV M w) (RV w) w L x)(hM:∀b,M b->b < w.heap.size)(hb:Below w.heap.size w w'):C8 N (EV M w') (RV w') w' L x:=by
 refine h.imp (fun b t _ f=>f.same (hb.block b f.lt)) (fun b o _ a=>Ab (hb.block b a.lt)) (fun lt e b o _ a g=>?_) (fun to r b o _ a hr=>?_)
 ·obtain ⟨c,h1,h2⟩:=g
  exact ⟨c,A0 h1 (hb.block b a.lt),h2.same (fun _ h=>h) (fun b d=>hb.block b (hM b d))⟩
 ·exact ⟨hr.1,(Ab (hb.block b a.lt)).trans hr.2.1,(Ab (hb.block b a.lt)).trans hr.2.2⟩
end
theorem AB.split{α β:Type}{R:α->β->Prop}:∀ {l:List α} {m:List β} {l':List α} {a:List β},l.length=m.length->AB R (l++l') (m++a)->AB R l m∧AB R l' a
 |[],[],_,_,_,h=>⟨trivial,h⟩
 |_::_,_::_,_,_,hl,h=>by
  obtain ⟨h1,h2⟩:=AB.split (by simpa using hl) h.2
  exact ⟨⟨h.1,h1⟩,h2⟩
 |[],_::_,_,_,hl,_=>by simp at hl
 |_::_,[],_,_,hl,_=>by simp at hl
theorem Ia{α β γ:Type}{R:α->β->Prop}(f:Nat->List α)(g:Nat->γ->List β):∀(l:List γ) (k:Nat),(∀i (h:i < l.length),(f (k+i)).length=(g (k+i) l[i]).length)->
  AB R ((List.range' k l.length).flatMap f) ((l.zipIdx k).flatMap fun p=>g p.2 p.1)->∀i (h:i < l.length),AB R (f (k+i)) (g (k+i) l[i])
 |[],_,_,_,i,h=>by simp at h
 |x::r,k,hl,hA,i,h=>by
  rw[yx,List.range'_succ,yW,xP,yW] at hA
  obtain ⟨h1,h2⟩:=AB.split (hl 0 (by simp)) hA
  cases i with
  |zero=>exact h1
  |succ i=>
   have:=Ia f g r (k+1) (fun i hi=>by have:=hl (i+1) (by simpa using hi);rw[show k+1+i=k+(i+1) by omega];simpa using this) h2 i (by simpa using h)
   rw[show k+1+i=k+(i+1) by omega] at this
   simpa using this
theorem BM{α β γ:Type}{R:α->β->Prop}(f:Nat->List α)(g:Nat->γ->List β)(l:List γ)(n:Nat)(b:n=l.length)(c:∀i (h:i < l.length),(f i).length=(g i l[i]).length)(a:AB R ((List.range n).flatMap f) (l.zipIdx.flatMap fun p=>g p.2 p.1)):∀i (h:i < l.length),AB R (f i) (g i l[i]):=by
 subst b
 rw[List.range_eq_range'] at a
 intro i h
 have:=Ia f g l 0 (fun i hi=>by rw[yy];exact c i hi) a i h
 rwa [yy] at this
theorem Fg{α β γ:Type}(f:Nat->List α)(g:Nat->γ->List β)(l:List γ)(n:Nat)(c:n=l.length)(d:∀i (h:i < l.length),(f i).length=(g i l[i]).length):((List.range n).flatMap f).length=(l.zipIdx.flatMap fun p=>g p.2 p.1).length:=
 AB.length (R:=fun _ _=>True) (AY f g l n c (fun i h=>by
  have:∀(a:List α) (b:List β),a.length=b.length->AB (fun _ _=>True) a b:=by
   intro a
   induction a with
   |nil=>intro b hb;cases b with
    |nil=>trivial
    |cons=>simp at hb
   |cons x r ih=>intro b hb;cases b with
    |nil=>simp at hb
    |cons y s=>exact ⟨trivial,ih s (by simpa using hb)⟩
  exact this _ _ (d i h)))
def SY(E:Int->Ex->Nat->Nat->Prop)(a:Array Value)(e:Ks):Prop:=∃b o,a=#[.pointer (some ⟨b,o,none⟩),.int .i64 e.2]∧E e.2 e.1 b o
section
variable{N:NP}{E E':Int->Ex->Nat->Nat->Prop}{R:Int->Rf->Nat->Nat->Prop}{w:World}
theorem BI{h:Au}{g sz i c:Nat}{e:Ex}{lt:Int}(f:h.a=some ⟨g,0,none⟩)(d:SY E' #[h.ptr sz i c,.int .i64 lt] (e,lt)):E' lt e g (i*sz+c):=by
 obtain ⟨b,o,h1,h2⟩:=d
 unfold Au.ptr at h1
 rw[AO f,yy] at h1
 simp only[qu,xU,xS,za,qB,and_true] at h1
 obtain ⟨rfl,rfl⟩:=h1
 exact h2
theorem KG{s a b o:Nat}{lt:Int}{e:Ex}(h1:(#[.pointer (some ⟨s,a,none⟩),.int .i64 lt]:Array Value)=#[.pointer (some ⟨b,o,none⟩),.int .i64 lt])(h2:E' lt e b o):E' lt e s a:=by
 simp only[qu,xU,xS,za,qB,and_true] at h1
 obtain ⟨rfl,rfl⟩:=h1
 exact h2
theorem C8.told{L:Bt}{x:Av}(h:C8 N E R w L x)(c:AB (SY E') (BJ L) (Ax x)):C8 N E' R w L x:=by
 unfold BJ Ax at c
 obtain ⟨I,c⟩:=AB.split (l:=An (Af L.s)) (m:=[(x.season,(0:Int)),(x.cap,0),(x.start,0)]) rfl c
 obtain ⟨z,c⟩:=AB.split (Fg _ (fun i (d:Gh)=> [(d.value,1+(i:Int))]) x.lets _ h.lets.1 (fun _ _=>rfl)) c
 obtain ⟨S,c⟩:=AB.split (Fg _ (fun i (d:DN)=> [(d.need,(0:Int))]) x.crops _ h.crops.1 (fun _ _=>rfl)) c
 obtain ⟨Q,c⟩:=AB.split (Fg _ (fun i (d:AA)=> [(d.delay,(0:Int)),(d.cap,0),(d.bank,0),(d.siphon,0),(d.evap0,0),(d.evap1,0),(d.seep0,0),(d.seep1,0)]) x.reaches _ h.reaches.1 (fun _ _=>rfl)) c
 obtain ⟨F,c⟩:=AB.split (Fg _ (fun i (d:CE)=> [(d.area,(0:Int))]) x.farms _ h.farms.1 (fun _ _=>rfl)) c
 have p:∀i (hi:i < x.rots.length),(An (Eh L.rots i)++BF (A2 L i) (A2 L i).n).length=([(x.rots[i].flow,(0:Int)),(x.rots[i].frm,0),(x.rots[i].to,0)]++Em x.rots[i].turns).length:=fun i hi=>by
  obtain ⟨g,g1,a,ty,_,_,_,_,_,_,_,o⟩:=h.rots.2.2 i hi
  rw[ym,ym]
  congr 1
  exact Fg _ (fun k (d:Cb)=> [(d.len,(0:Int))]) x.rots[i].turns _ o.1 (fun _ _=>rfl)
 obtain ⟨H,c⟩:=AB.split (Fg _ (fun i (d:Br)=> [(d.flow,(0:Int)),(d.frm,0),(d.to,0)]++Em d.turns) x.rots _ h.rots.1 p) c
 obtain ⟨T,O⟩:=AB.split (Fg _ (fun i (d:AW)=> [(d.flow,(0:Int)),(d.frm,0),(d.to,0),(d.every,0),(d.len,0)]) x.rights _ h.rights.1 (fun _ _=>rfl)) c
 have B1:=BM _ (fun i (d:Gh)=> [(d.value,1+(i:Int))]) x.lets _ h.lets.1 (fun _ _=>rfl) z
 have B2:=BM _ (fun i (d:DN)=> [(d.need,(0:Int))]) x.crops _ h.crops.1 (fun _ _=>rfl) S
 have B3:=BM _ (fun i (d:AA)=> [(d.delay,(0:Int)),(d.cap,0),(d.bank,0),(d.siphon,0),(d.evap0,0),(d.evap1,0),(d.seep0,0),(d.seep1,0)]) x.reaches _ h.reaches.1 (fun _ _=>rfl) Q
 have B4:=BM _ (fun i (d:CE)=> [(d.area,(0:Int))]) x.farms _ h.farms.1 (fun _ _=>rfl) F
 have B5:=BM _ (fun i (d:Br)=> [(d.flow,(0:Int)),(d.frm,0),(d.to,0)]++Em d.turns) x.rots _ h.rots.1 p H
 have K:=BM _ (fun i (d:AW)=> [(d.flow,(0:Int)),(d.frm,0),(d.to,0),(d.every,0),(d.len,0)]) x.rights _ h.rights.1 (fun _ _=>rfl) T
 have G:=BM _ (fun i (d:CU)=> [(d.due,(0:Int))]) x.duties _ h.duties.1 (fun _ _=>rfl) O
 obtain ⟨⟨W,X,V,U⟩,⟨b1,o1,t1,M⟩,⟨b2,o2,t2,D⟩,_⟩:=I
 refine ⟨h.ty,h.name,KG V U,KG t1 M,KG t2 D,h.hlets,h.hcrops,h.hreaches,h.hfarms,h.hrots,h.hrights,h.hduties,⟨h.lets.1,h.lets.2.1,fun i hi=>?_⟩,⟨h.crops.1,h.crops.2.1,fun i hi=>?_⟩,⟨h.reaches.1,h.reaches.2.1,fun i hi=>?_⟩,⟨h.farms.1,h.farms.2.1,fun i hi=>?_⟩,⟨h.rots.1,h.rots.2.1,fun i hi=>?_⟩,⟨h.rights.1,h.rights.2.1,fun i hi=>?_⟩,⟨h.duties.1,h.duties.2.1,fun i hi=>?_⟩⟩
 ·obtain ⟨g,g1,a,ty,b,_⟩:=h.lets.2.2 i hi
  exact ⟨g,g1,a,ty,b,BI g1 (B1 i hi).1⟩
 ·obtain ⟨g,g1,a,ty,b,_⟩:=h.crops.2.2 i hi
  exact ⟨g,g1,a,ty,b,BI g1 (B2 i hi).1⟩
 ·obtain ⟨g,g1,a,ty,b,e,_⟩:=h.reaches.2.2 i hi
  obtain ⟨f,t,r,v,y,B,J,A,_⟩:=B3 i hi
  exact ⟨g,g1,a,ty,b,e,BI g1 f,BI g1 t,BI g1 r,BI g1 v,BI g1 y,BI g1 B,BI g1 J,BI g1 A⟩
 ·obtain ⟨g,g1,a,ty,b,e,j,_,q⟩:=h.farms.2.2 i hi
  exact ⟨g,g1,a,ty,b,e,j,BI g1 (B4 i hi).1,q⟩
 ·obtain ⟨g,g1,a,ty,b,e,j,_,_,_,q,o⟩:=h.rots.2.2 i hi
  obtain ⟨f,u⟩:=AB.split (l:=An (Eh L.rots i)) (m:=[(x.rots[i].flow,(0:Int)),(x.rots[i].frm,0),(x.rots[i].to,0)]) rfl (B5 i hi)
  obtain ⟨f,t,r,_⟩:=f
  have C:=BM _ (fun k (d:Cb)=> [(d.len,(0:Int))]) x.rots[i].turns _ o.1 (fun _ _=>rfl) u
  refine ⟨g,g1,a,ty,b,e,j,BI g1 f,BI g1 t,BI g1 r,q,o.1,o.2.1,fun k u=>?_⟩
  obtain ⟨g,g1,a,ty,b,_⟩:=o.2.2 k u
  exact ⟨g,g1,a,ty,b,BI g1 (C k u).1⟩
 ·obtain ⟨g,g1,a,ty,b,e,j,q,P,_⟩:=h.rights.2.2 i hi
  obtain ⟨f,t,r,v,y,_⟩:=K i hi
  exact ⟨g,g1,a,ty,b,e,j,q,P,BI g1 f,BI g1 t,BI g1 r,BI g1 v,BI g1 y⟩
 ·obtain ⟨g,g1,a,ty,b,e,j,_⟩:=h.duties.2.2 i hi
  exact ⟨g,g1,a,ty,b,e,j,BI g1 (G i hi).1⟩
end
def G0(L:Bt)(k b o:Nat)(lt:Int):Prop:=(BJ L)[k]?=some #[.pointer (some ⟨b,o,none⟩),.int .i64 lt]
structure O5 (N:Nat->Prop) (W4:World) (L:Bt) (x:Av):Prop where
 epos:∀j b o lt,G0 L j b o lt->Gp W4 b o
 old:∀b,N b->b < W4.heap.size∧∀j o lt,¬ G0 L j b o lt
 val:∀j b o lt,G0 L j b o lt->∀h:j < (Ax x).length,∃c,W4.rangeAt b o c∧AG N W4 (Ax x)[j].1 c
structure O6 (W4:World) (L:Bt) (x:Av) (k:Nat) (O:Nat->Prop) (W:World):Prop where
 os:W.os=W4.os
 tape:W.tape=W4.tape
 output:W.output=W4.output
 size:W4.heap.size<=W.heap.size
 own:∀b,O b->W4.heap.size<=b
 cells:∀b q,b < W4.heap.size->(∀j o lt,j < k->G0 L j b o lt->q≠o+5)->W.cell? ⟨b,q,none⟩=W4.cell? ⟨b,q,none⟩
 ty:∀b t,Ty W4 b t->Ty W b t
 old:∀b,b < W4.heap.size->(∀j o lt,j < k->¬ G0 L j b o lt)->W.heap[b]?=W4.heap[b]?
 done:∃M:Nat->Prop,(∀b,M b->¬ O b∧W4.heap.size<=b∧b < W.heap.size)∧∀j b o lt,j < k->G0 L j b o lt->∀h:j < (Ax x).length,b < W4.heap.size∧∃a c,W.cell? ⟨b,o+5,none⟩=some (.slice a ((Ax x)[j].1).args.length c)∧DI W M a 0 ((Ax x)[j].1).args
section
variable{N:NP}{W4 W w':World}{L:Bt}{x:Av}{k b o:Nat}{lt:Int}{O:NP}
theorem O6.start(W4:World)(L:Bt)(x:Av):O6 W4 L x 0 (fun _=>False) W4:=
 ⟨rfl,rfl,rfl,yf _,fun _ h=>h.elim,fun _ _ _ _=>rfl,fun _ _ h=>h,fun _ _ _=>rfl,fun _=>False,fun _ h=>h.elim,fun j _ _ _ a=>by omega⟩
theorem O6.stays:Ca (O6 W4 L x):=by
 intro k O W C W' h z B y r l m
 have d:∀b,b < W4.heap.size->W'.heap[b]?=W.heap[b]?:=fun b hb=>l b (fun e=>by have:=h.own b e;omega) (yv hb h.size)
 obtain ⟨M,m1,s⟩:=h.done
 refine ⟨B.trans h.os,y.trans h.tape,r.trans h.output,yu h.size z,fun b hb=>?_,fun b q hb g=>(Ab (d b hb)).trans (h.cells b q hb g),fun b t hb=>(h.ty b t hb).same (d b hb.lt),fun b hb g=>(d b hb).trans (h.old b hb g),M,fun b hb=>?_,fun j b o lt w v n=>?_⟩
 ·rcases m b hb with h1|h1
  ·exact h.own b h1
  ·have:=h.size;omega
 ·obtain ⟨n1,n2,D⟩:=m1 b hb
  refine ⟨fun e=>?_,n2,by omega⟩
  rcases m b e with h1|h1
  ·exact n1 h1
  ·omega
 ·obtain ⟨f,a,c,u,p⟩:=s j b o lt w v n
  exact ⟨f,a,c,(Ab (d b f)).trans u,p.same (fun _ h _=>h) (fun c A i=>l c (m1 c A).1 i)⟩
theorem O6.read(g:O5 N W4 L x)(h:O6 W4 L x k O W)(v:G0 L k b o lt)(K:k < (Ax x).length):
  ∃M:NP,(∀c,M c->N c∨(W4.heap.size<=c∧c < W.heap.size))∧∃cs,W.rangeAt b o cs∧AG M W (Ax x)[k].1 cs:=by
 obtain ⟨c,c1,c2⟩:=g.val k b o lt v K
 obtain ⟨a,cap,rfl,R,Q,V⟩:=c2.cells
 obtain ⟨I,r1,r2,G,H,T⟩:=Bp c1
 have l:=(g.epos k b o lt v).lt
 have hN:∀c,N c->W.heap[c]?=W4.heap[c]?:=fun c s=>h.old c (g.old c s).1 (fun j o lt _=>(g.old c s).2 j o lt)
 have d:∀i,i < 5->W.cell? (aV b (o+i))=W4.cell? (aV b (o+i)):=fun i hi=>h.cells b _ l (fun j w e _ f m=>by
  have:=(g.epos k b o lt v).uniq (g.epos j b w e f) (j:=i) (j':=5) (by omega) (by omega) m
  omega)
 obtain ⟨M,m1,P⟩:=h.done
 by_cases r:∃j e,j < k∧G0 L j b o e
 ·obtain ⟨j,e,z,f⟩:=r
  have p:j < (Ax x).length:=by omega
  obtain ⟨_,U,F,E,D⟩:=P j b o e z f p
  obtain ⟨S,y,t⟩:=g.val j b o e f p
  have C:S=[iV (Ax x)[k].1.op,iV (Ax x)[k].1.n,iV (Ax x)[k].1.u,.string (Ax x)[k].1.rn,iV (Ax x)[k].1.ri,.slice a (Ax x)[k].1.args.length cap]:=by
   refine xD (by rw[t.len];rfl) fun q J A=>?_
   have h1:=y q _ (yk J)
   have h2:=c1 q _ (yk A)
   rw[h1] at h2
   exact yi h2
  subst C
  have m:(Ax x)[j].1=(Ax x)[k].1:=QD _ t c2
  rw[m] at E D
  refine ⟨fun c=>N c∨M c,fun c g=>g.imp id (fun B=>(m1 c B).2),_,A6 ((d 0 (by omega)).trans I) (A6 ((d 1 (by omega)).trans r1) (A6 ((d 2 (by omega)).trans r2) (A6 ((d 3 (by omega)).trans G) (A6 ((d 4 (by omega)).trans H) (BU E))))),AG.mk' R Q (D.rowV (fun c B _=>.inr B))⟩
 ·have h5:W.cell? (aV b (o+5))=W4.cell? (aV b (o+5)):=h.cells b _ l (fun j w e z f m=>by
   have:=(g.epos k b o lt v).uniq (g.epos j b w e f) (j:=5) (j':=5) (by omega) (by omega) m
   obtain ⟨_,rfl⟩:=this
   exact r ⟨j,e,z,f⟩)
  exact ⟨N,fun c g=>.inl g,_,A6 ((d 0 (by omega)).trans I) (A6 ((d 1 (by omega)).trans r1) (A6 ((d 2 (by omega)).trans r2) (A6 ((d 3 (by omega)).trans G) (A6 ((d 4 (by omega)).trans H) (BU (h5.trans T)))))),c2.same (fun _ h=>h) hN⟩
theorem O6.next(F:O5 N W4 L x)(h:O6 W4 L x k O W)(s:G0 L k b o lt)(X:k < (Ax x).length)(u:∀b,O b->b < W.heap.size)(d:Wh W b o (Ax x)[k].1.args w'):O6 W4 L x (k+1) O w'∧AL O W w':=by
 obtain ⟨l,R,s3,a,cap,U,s5⟩:=d
 have G:=(F.epos k b o lt s).lt
 have hz:=h.size
 have z:∀c,W4.heap.size<=c->c < W.heap.size->w'.heap[c]?=W.heap[c]?:=fun c h1 h2=>l.block c h2 (fun e=>by cases e;omega)
 obtain ⟨M,m1,m2⟩:=h.done
 refine ⟨⟨l.os.trans h.os,l.tape.trans h.tape,l.output.trans h.output,yu hz l.size,h.own,fun c q d n=>?_,fun c t J=>?_,fun c d n=>?_,fun c=>M c∨(W.heap.size<=c∧c < w'.heap.size),fun c m=>?_,fun j r w p I f A=>?_⟩,l.size,fun c E=>z c (h.own c E) (u c E)⟩
 ·by_cases i:c=b
  ·subst i
   rw[R q (n k o lt (by omega) s),h.cells c q d (fun j o lt I=>n j o lt (by omega))]
  ·rw[IF l (by omega) i,h.cells c q d (fun j o lt I=>n j o lt (by omega))]
 ·by_cases i:c=b
  ·subst i;exact s3 t (h.ty c t J)
  ·exact (h.ty c t J).same (l.block c (h.ty c t J).lt (fun e=>i (by cases e;rfl)))
 ·have i:c≠b:=fun e=>n k o lt (by omega) (e▸s)
  rw[l.block c (by omega) (fun e=>i (by cases e;rfl)),h.old c d (fun j o lt I=>n j o lt (by omega))]
 ·rcases m with m|m
  ·obtain ⟨n1,n2,n3⟩:=m1 c m
   exact ⟨n1,n2,by have:=l.size;omega⟩
  ·exact ⟨fun E=>by have:=u c E;omega,by omega,m.2⟩
 ·have C:DI w' (fun c=>M c∨(W.heap.size<=c∧c < w'.heap.size)) a 0 (Ax x)[k].1.args:=s5.same (fun c h1 h2=>.inr ⟨h1,h2⟩) (fun _ _ _=>rfl)
  by_cases g:r=b∧w=o
  ·obtain ⟨rfl,rfl⟩:=g
   obtain ⟨c,c1,c2⟩:=F.val k r w lt s X
   obtain ⟨c',H,D⟩:=F.val j r w p f A
   have P:c'=c:=by
    refine xD (by rw[D.len,c2.len]) fun q n K=>?_
    have h1:=H q _ (yk n)
    have h2:=c1 q _ (yk K)
    rw[h1] at h2
    exact yi h2
   subst P
   have Y:(Ax x)[j].1=(Ax x)[k].1:=QD _ D c2
   rw[Y]
   exact ⟨G,a,cap,U,C⟩
  ·have Q:j < k:=by
    rcases zU j k with T|T
    ·exact T
    ·exfalso
     obtain rfl:j=k:=by omega
     unfold G0 at s f
     rw[s] at f
     simp only[za,qu,xU,xS,qB,and_true] at f
     exact g ⟨f.1.1.symm,f.1.2.symm⟩
   obtain ⟨y,V,B,S,Z⟩:=m2 j r w p Q f A
   refine ⟨y,V,B,?_,Z.same (fun c m _=>.inl m) (fun c m d=>z c (m1 c m).2.1 d)⟩
   by_cases v:r=b
   ·subst v
    rw[R _ (fun e=>g ⟨rfl,by omega⟩)];exact S
   ·rw[IF l (by have:=(F.epos j r w p f).lt;omega) v];exact S
end
section
variable{N:NP}{E:Int->Ex->Nat->Nat->Prop}{R:Int->Rf->Nat->Nat->Prop}{w W:World}{L:Bt}{x:Av}
theorem C8.ok(h:C8 N E R w L x):L.Ok:=by
 refine ⟨h.lets.ok,h.crops.ok,h.reaches.ok,h.farms.ok,h.rots.ok,h.rights.ok,h.duties.ok,fun i hi=>?_⟩
 obtain ⟨_,_,_,_,_,_,_,_,_,_,_,a⟩:=h.rots.2.2 i (by rw[<-h.rots.1];exact hi)
 exact a.ok
theorem C8.heads(h:C8 N E R w L x){Bs:Nat}(d:∀b o,NV w b o->W.cell? ⟨b,o,none⟩=w.cell? ⟨b,o,none⟩)(c:W.cell? ⟨Bs,0,none⟩=some (.pointer (some ⟨L.s,0,none⟩))):IA L Bs W:=by
 have a:∀o,Fu 35 o=0->W.cell? (aV L.s o)=w.cell? (aV L.s o):=fun o f=>d _ _ ⟨_,h.ty,f⟩
 refine ⟨c,(a _ rfl).trans h.hlets,(a _ rfl).trans h.hcrops,(a _ rfl).trans h.hreaches,(a _ rfl).trans h.hfarms,(a _ rfl).trans h.hrots,(a _ rfl).trans h.hrights,(a _ rfl).trans h.hduties,fun i hi=>?_⟩
 obtain ⟨g,g1,_,ty,_,_,_,_,_,_,e,_⟩:=h.rots.2.2 i (by rw[<-h.rots.1];exact hi)
 rw[AO g1,yy]
 exact (d _ _ (Dy ty Fv i 22 rfl)).trans e
theorem MT{cs:LV}(h:BH N w L cs x):∀v∈cs,v.oneCell'=true:=by
 obtain ⟨c0,c1,c2,rfl,b,g1,c⟩:=h.cells
 refine Cq rfl (AK (Bm b) (AK (Bm g1) (AK (Bm c) ?_)))
 intro v a
 simp at a
 rcases a with rfl|rfl|rfl|rfl|rfl|rfl|rfl<;>rfl
theorem Hp(h:AB (Vr N E w) (BJ L) (Ax x)){j b o:Nat}{lt:Int}(c:G0 L j b o lt):N b∧Gp w b o∧∀k:j < (Ax x).length,E (Ax x)[j].2 (Ax x)[j].1 b o:=by
 unfold G0 at c
 obtain ⟨d,f⟩:=yA.1 c
 have a:j < (Ax x).length:=by rw[<-h.length];exact d
 obtain ⟨i,g,h1,h2,h3,e⟩:=h.get j d a
 rw[f] at h1
 simp only[qu,xU,xS,za,qB,and_true] at h1
 obtain ⟨⟨rfl,rfl⟩,_⟩:=h1
 exact ⟨h2,h3,fun _=>e⟩
theorem SZ(h:AB (Vr N E w) (BJ L) (Ax x)){j:Nat}(a:j < (BJ L).length):∃b o lt,G0 L j b o lt:=by
 obtain ⟨b,o,h1,_⟩:=h.get j a (by rw[<-h.length];exact a)
 exact ⟨b,o,_,by unfold G0;rw[yk a,h1]⟩
theorem Ud{W4:World}{O:NP}{B:NP}{F:NP}(h:AB (Vr N E W4) (BJ L) (Ax x))(s:O5 F W4 L x)(u:O6 W4 L x (BJ L).length O W)(H:∀b,W4.heap.size<=b->¬ O b->B b):
  AB (SY fun (_:Int) e b o=>∃c,W.rangeAt b o c∧I1 W B e c) (BJ L) (Ax x):=by
 have k:∀(l:List (Array Value)) (m:List Ks),l.length=m.length->(∀i (h1:i < l.length) (h2:i < m.length),SY (fun (_:Int) e b o=>∃c,W.rangeAt b o c∧I1 W B e c) l[i] m[i])->AB (SY fun (_:Int) e b o=>∃c,W.rangeAt b o c∧I1 W B e c) l m:=by
  intro l
  induction l with
  |nil=>intro m f _;cases m with
   |nil=>trivial
   |cons=>simp at f
  |cons a l ih=>intro m f w;cases m with
   |nil=>simp at f
   |cons e m=>exact ⟨w 0 (by simp) (by simp),ih m (by simpa using f) (fun i h1 h2=>w (i+1) (by simpa using h1) (by simpa using h2))⟩
 refine k _ _ h.length fun i h1 h2=>?_
 obtain ⟨b,o,v,S,U,X⟩:=h.get i h1 h2
 have n:G0 L i b o (Ax x)[i].2:=by unfold G0;rw[yk h1,v]
 obtain ⟨M,m1,A⟩:=u.done
 obtain ⟨g,a,cap,C,z⟩:=A i b o _ h1 n h2
 obtain ⟨c,c1,c2⟩:=s.val i b o _ n h2
 obtain ⟨T,t,rfl,I,G,Q⟩:=c2.cells
 obtain ⟨P,r1,r2,J,K,V⟩:=Bp c1
 have d:∀q,q < 5->W.cell? (aV b (o+q))=W4.cell? (aV b (o+q)):=fun q R=>u.cells b _ g (fun j D r _ p y=>by
  have:=(s.epos i b o _ n).uniq (s.epos j b D r p) (j:=q) (j':=5) (by omega) (by omega) y
  omega)
 exact ⟨b,o,v,_,A6 ((d 0 (by omega)).trans P) (A6 ((d 1 (by omega)).trans r1) (A6 ((d 2 (by omega)).trans r2) (A6 ((d 3 (by omega)).trans J) (A6 ((d 4 (by omega)).trans K) (BU C))))),I1.mk' I G (z.same (fun b hb _=>H b (m1 b hb).2.1 (m1 b hb).1) (fun _ _ _=>rfl))⟩
theorem Hq{f:NP}{W4:World}{k:Nat}{O:NP}(g:O5 f W4 L x)(d:O6 W4 L x k O W){b q:Nat}{t:Nat}(ty:Ty W4 b t)(a:Fu t q≠1):W.cell? ⟨b,q,none⟩=W4.cell? ⟨b,q,none⟩:=
 d.cells b q ty.lt (fun j o lt _ e c=>by
  obtain ⟨h,h1,h2⟩:=g.epos j b o lt e
  obtain rfl:=ty.inj h1
  exact a (by rw[c];exact (h2 5 (by omega)).1))
end
end Go.Proofs.YtjofgpfocadomaaGreatDoor
namespace Go.Proofs.YtjofgpfocadomaaGreatDoor
open Go.RowKit
attribute [local go_sem] Oper.semAt_some
def ET(B:NP)(w:World)(_:Int)(e:Ex)(b o:Nat):Prop:=∃c,w.rangeAt b o c∧I1 w B e c
theorem MV{fn:Func}{t:Tmp}{ty:TypeId}{tmps:Array Value}{P:Program}{w:World}{p:Addr}{v:Value}(h:fn.results=#[.cell t ty])(a:tmps.getD t undef=.pointer (some p))(b:(loadVar ty p).run P w=.ok v w):(results fn tmps).run P w=.ok v w:=by
 rw[yE] at a
 simp[results,h,a,asAddr,b]
def Mj(w:World)(x:Av)(e:Ending)(w':World):Prop:=
 ∃(L:Bt) (cs:LV),e=.returned (.agg cs.toArray)∧cs.length=26∧(∀v∈cs,v.oneCell'=true)∧Below w.heap.size w w'∧L.s=w.heap.size∧w'.rangeAt L.s 0 cs∧C8 (fun g=>w.heap.size<=g∧g≠w.heap.size+1) (ET (fun g=>w.heap.size+2<=g) w') (RV w') w' L x
theorem KI(W:World)(r:Option Nat):W.grownBy W r:=⟨rfl,rfl,rfl,yf _,fun _ _ _=>rfl⟩
theorem KJ{W V:World}{r:Option Nat}(h:W.grownBy V r):W.grownBy V.drew r:=⟨h.os,h.tape,h.output,h.size,h.block⟩
theorem AS{W V U:World}{r:Option Nat}(h:W.grownBy V r)(k:V.grownBy U r):W.grownBy U r:=
 ⟨k.os.trans h.os,k.tape.trans h.tape,k.output.trans h.output,yu h.size k.size,fun b hb a=>(k.block b (yv hb h.size) a).trans (h.block b hb a)⟩
theorem BN{V U:World}{r:Option Nat}(h:Below V.heap.size V U):V.grownBy U r:=⟨h.os,h.tape,h.output,h.size,fun b hb _=>h.block b hb⟩
def Mk{α:Type}:List α->Option Addr->Option Nat
 |[],_=>none
 |_::_,a=>a.map (·.block)
theorem Fh{α:Type}{l:List α}{i g:Nat}(h:i < l.length):Mk l (some ⟨g,0,none⟩)=some g:=by
 cases l with
 |nil=>simp at h
 |cons x r=>rfl
structure VC (U:World) (a:Option Addr) (N:Nat->Prop) (w:World) (l:List Br) (hs:List Au) (wr:World):Prop where
 grown:U.grownBy wr (Mk l a)
 len:hs.length<=l.length
 ty:∀g,a=some ⟨g,0,none⟩->∀t,Ty U g t->Ty wr g t
 cells:∀g,a=some ⟨g,0,none⟩->∀q,(∀j,j < hs.length->q≠j*23+22)->wr.cell? ⟨g,q,none⟩=U.cell? ⟨g,q,none⟩
 done:∀j (_:j < hs.length) (_:j < l.length),GI U.heap.size wr 158 8 (Ft N w) hs[j] l[j].turns∧∀g,a=some ⟨g,0,none⟩->wr.cell? ⟨g,j*23+22,none⟩=some hs[j].v
theorem Ml{α:Type}{l:List α}{a:Option Addr}{b:Nat}(h:some b=Mk l a):0 < l.length:=by
 cases l with
 |nil=>cases h
 |cons x r=>simp
theorem VC.next{U:World}{a:Option Addr}{N:NP}{w:World}{l:List Br}{hs:List Au}{wr V A:World}{g:Nat}{p:Au}{u:Value}(n:VC U a N w l hs wr)(hi:hs.length < l.length)(h:a=some ⟨g,0,none⟩)(M:g < U.heap.size)(hb:Below wr.heap.size wr V)
 (L:V.cell? ⟨g,hs.length*23+22,none⟩=some u)(hr:GI wr.heap.size V 158 8 (Ft N w) p l[hs.length].turns)(E:A=V.setCell ⟨g,hs.length*23+22,none⟩ p.v):VC U a N w l (hs++[p]) A:=by
 obtain ⟨o,s,C,y⟩:=Ac p.v L
 rw[<-E] at o s C y
 have K:=n.grown.size
 have J:=hb.size
 have k:V.heap[g]?=wr.heap[g]?:=hb.block g (by omega)
 have d:∀q,V.cell? (aV g q)=wr.cell? (aV g q):=fun q=>by unfold World.cell?;rw[k]
 have m:Mk l a=some g:=by rw[h];exact Fh hi
 refine ⟨?_,by simp;omega,fun x c t I=>?_,fun x c q z=>?_,fun j B F=>?_⟩
 ·rw[m]
  have h0:=n.grown
  rw[m] at h0
  exact AS (AS h0 (BN hb)) o
 ·rw[h] at c;cases c
  exact C t ((n.ty g h t I).same k)
 ·rw[h] at c;cases c
  rw[s q (z hs.length (by simp)),d,n.cells g h q (fun j B=>z j (by simp;omega))]
 ·by_cases r:j=hs.length
  ·subst r
   rw[xy (yf _)]
   simp only[Nat.sub_self,List.getElem_cons_zero]
   exact ⟨GI.of (hr.up (fun b D f=>o.block b f (fun e=>by cases e;omega))).1 K (hr.up (fun b D f=>o.block b f (fun e=>by cases e;omega))).2,fun x c=>by rw[h] at c;cases c;exact y⟩
  ·have i:j < hs.length:=by simp at B;omega
   rw[xz i]
   obtain ⟨H,G⟩:=n.done j i F
   refine ⟨H.up (fun b D f=>(o.block b (by omega) (fun e=>by cases e;omega)).trans (hb.block b f)),fun x c=>?_⟩
   rw[h] at c;cases c
   rw[s _ (by omega),d,G g h]
theorem T1{N:NP}{w:World}{t:Au}{cs:LV}{d:Br}(h:GW N w t cs d):BE N w 8 (Ft N w) t d.turns:=by
 obtain ⟨_,_,_,_,_,_,_,_,_,h⟩:=h
 exact h
theorem T2{N:NP}{w:World}{L:Bt}(cs:LV)(d:Br × Nat)(h:GW N w (A2 L d.2) cs d.1):∀v∈cs,v.oneCell'=true:=IC h
theorem T3{N:NP}{w W:World}{L:Bt}{l:List Br}(h:L.rots.n=l.length∧l.length<=140737488355328∧∀i (hi:i < l.length),∃b o cs,L.rots.a=some ⟨b,o,none⟩∧N b∧cs.length=23∧w.rangeAt b (o+i*23) cs∧GW N w (A2 L i) cs l[i])(hb:∀b,N b->W.heap[b]?=w.heap[b]?):
  BE N W 23 (fun cs (d:Br × Nat)=>GW N w (A2 L d.2) cs d.1) L.rots l.zipIdx:=by
 obtain ⟨h1,h2,h3⟩:=h
 refine ⟨by rw[zC];exact h1,by rw[zC];exact h2,fun i hi=>?_⟩
 rw[zC] at hi
 obtain ⟨b,o,cs,g1,c,g,f,e⟩:=h3 i hi
 refine ⟨b,o,cs,g1,c,g,A0 f (hb b c),?_⟩
 rw[qj]
 simpa using e
theorem PN{N:NP}{w:World}{L:Bt}{cs:LV}{x:Av}(h:BH N w L cs x)(hN:∀b,N b->b < w.heap.size)(f3:MS x):
  Calls Tryz.prog 67 #[.agg cs.toArray] w (Mj w x):=by
 obtain ⟨c0,c1,c2,rfl,g0,g1,g2⟩:=h.cells
 obtain ⟨a0,p0,rfl,e0⟩:=g0.cells
 obtain ⟨a1,p1,rfl,e1⟩:=g1.cells
 obtain ⟨a2,p2,rfl,e2⟩:=g2.cells
 have HV:=yb h
 have HN:=yb hN
 have b0:=yb f3
 have gg:=yb g0;have gp:=yb g1;have go:=yb g2
 clear h hN f3 g0 g1 g2 e0 e1 e2
 unfold Au.v
 simp only[yP,yS]
 refine Ba (n:=10) Tryz.func67 rfl ?_
 simp only[Tryz.ntmps67,yq,yx,yH,Nat.reduceAdd,Nat.reduceSub,zy,zA,zQ,zJ,yS,yP]
 refine A9 (A4 ?_)
 go_wp2
 have fq:Below w.heap.size w ((w.alloc (.cells #[.string x.name,iV x.season.op,iV x.season.n,iV x.season.u,.string x.season.rn,iV x.season.ri,.slice a0 x.season.args.length p0,iV x.cap.op,iV x.cap.n,iV x.cap.u,.string x.cap.rn,iV x.cap.ri,.slice a1 x.cap.args.length p1,iV x.start.op,iV x.start.n,iV x.start.u,.string x.start.rn,iV x.start.ri,.slice a2 x.start.args.length p2,.slice L.lets.a L.lets.n L.lets.c,.slice L.crops.a L.crops.n L.crops.c,.slice L.reaches.a L.reaches.n L.reaches.c,.slice L.farms.a L.farms.n L.farms.c,.slice L.rots.a L.rots.n L.rots.c,.slice L.rights.a L.rights.n L.rights.c,.slice L.duties.a L.duties.n L.duties.c] 35)).alloc (.cells #[.string ⟨#[]⟩,iV 0,iV 0,iV 0,.string ⟨#[]⟩,iV 0,.slice none 0 0,iV 0,iV 0,iV 0,.string ⟨#[]⟩,iV 0,.slice none 0 0,iV 0,iV 0,iV 0,.string ⟨#[]⟩,iV 0,.slice none 0 0,.slice none 0 0,.slice none 0 0,.slice none 0 0,.slice none 0 0,.slice none 0 0,.slice none 0 0,.slice none 0 0] 35)):=((yg _ _).alloc (yf _) _).alloc (by simp) _
 have f2:((w.alloc (.cells #[.string x.name,iV x.season.op,iV x.season.n,iV x.season.u,.string x.season.rn,iV x.season.ri,.slice a0 x.season.args.length p0,iV x.cap.op,iV x.cap.n,iV x.cap.u,.string x.cap.rn,iV x.cap.ri,.slice a1 x.cap.args.length p1,iV x.start.op,iV x.start.n,iV x.start.u,.string x.start.rn,iV x.start.ri,.slice a2 x.start.args.length p2,.slice L.lets.a L.lets.n L.lets.c,.slice L.crops.a L.crops.n L.crops.c,.slice L.reaches.a L.reaches.n L.reaches.c,.slice L.farms.a L.farms.n L.farms.c,.slice L.rots.a L.rots.n L.rots.c,.slice L.rights.a L.rights.n L.rights.c,.slice L.duties.a L.duties.n L.duties.c] 35)).alloc (.cells #[.string ⟨#[]⟩,iV 0,iV 0,iV 0,.string ⟨#[]⟩,iV 0,.slice none 0 0,iV 0,iV 0,iV 0,.string ⟨#[]⟩,iV 0,.slice none 0 0,iV 0,iV 0,iV 0,.string ⟨#[]⟩,iV 0,.slice none 0 0,.slice none 0 0,.slice none 0 0,.slice none 0 0,.slice none 0 0,.slice none 0 0,.slice none 0 0,.slice none 0 0] 35)).heap[w.heap.size]?=some (.cells #[.string x.name,iV x.season.op,iV x.season.n,iV x.season.u,.string x.season.rn,iV x.season.ri,.slice a0 x.season.args.length p0,iV x.cap.op,iV x.cap.n,iV x.cap.u,.string x.cap.rn,iV x.cap.ri,.slice a1 x.cap.args.length p1,iV x.start.op,iV x.start.n,iV x.start.u,.string x.start.rn,iV x.start.ri,.slice a2 x.start.args.length p2,.slice L.lets.a L.lets.n L.lets.c,.slice L.crops.a L.crops.n L.crops.c,.slice L.reaches.a L.reaches.n L.reaches.c,.slice L.farms.a L.farms.n L.farms.c,.slice L.rots.a L.rots.n L.rots.c,.slice L.rights.a L.rights.n L.rights.c,.slice L.duties.a L.duties.n L.duties.c] 35 (0,0)):=(yD _ _ _ (by simp)).trans (World.alloc_heap_new w _)
 have fm:((w.alloc (.cells #[.string x.name,iV x.season.op,iV x.season.n,iV x.season.u,.string x.season.rn,iV x.season.ri,.slice a0 x.season.args.length p0,iV x.cap.op,iV x.cap.n,iV x.cap.u,.string x.cap.rn,iV x.cap.ri,.slice a1 x.cap.args.length p1,iV x.start.op,iV x.start.n,iV x.start.u,.string x.start.rn,iV x.start.ri,.slice a2 x.start.args.length p2,.slice L.lets.a L.lets.n L.lets.c,.slice L.crops.a L.crops.n L.crops.c,.slice L.reaches.a L.reaches.n L.reaches.c,.slice L.farms.a L.farms.n L.farms.c,.slice L.rots.a L.rots.n L.rots.c,.slice L.rights.a L.rights.n L.rights.c,.slice L.duties.a L.duties.n L.duties.c] 35)).alloc (.cells #[.string ⟨#[]⟩,iV 0,iV 0,iV 0,.string ⟨#[]⟩,iV 0,.slice none 0 0,iV 0,iV 0,iV 0,.string ⟨#[]⟩,iV 0,.slice none 0 0,iV 0,iV 0,iV 0,.string ⟨#[]⟩,iV 0,.slice none 0 0,.slice none 0 0,.slice none 0 0,.slice none 0 0,.slice none 0 0,.slice none 0 0,.slice none 0 0,.slice none 0 0] 35)).heap[w.heap.size+1]?=some (.cells #[.string ⟨#[]⟩,iV 0,iV 0,iV 0,.string ⟨#[]⟩,iV 0,.slice none 0 0,iV 0,iV 0,iV 0,.string ⟨#[]⟩,iV 0,.slice none 0 0,iV 0,iV 0,iV 0,.string ⟨#[]⟩,iV 0,.slice none 0 0,.slice none 0 0,.slice none 0 0,.slice none 0 0,.slice none 0 0,.slice none 0 0,.slice none 0 0,.slice none 0 0] 35 (0,0)):=by
  have:=World.alloc_heap_new (w.alloc (.cells #[.string x.name,iV x.season.op,iV x.season.n,iV x.season.u,.string x.season.rn,iV x.season.ri,.slice a0 x.season.args.length p0,iV x.cap.op,iV x.cap.n,iV x.cap.u,.string x.cap.rn,iV x.cap.ri,.slice a1 x.cap.args.length p1,iV x.start.op,iV x.start.n,iV x.start.u,.string x.start.rn,iV x.start.ri,.slice a2 x.start.args.length p2,.slice L.lets.a L.lets.n L.lets.c,.slice L.crops.a L.crops.n L.crops.c,.slice L.reaches.a L.reaches.n L.reaches.c,.slice L.farms.a L.farms.n L.farms.c,.slice L.rots.a L.rots.n L.rots.c,.slice L.rights.a L.rights.n L.rights.c,.slice L.duties.a L.duties.n L.duties.c] 35)) (.cells #[.string ⟨#[]⟩,iV 0,iV 0,iV 0,.string ⟨#[]⟩,iV 0,.slice none 0 0,iV 0,iV 0,iV 0,.string ⟨#[]⟩,iV 0,.slice none 0 0,iV 0,iV 0,iV 0,.string ⟨#[]⟩,iV 0,.slice none 0 0,.slice none 0 0,.slice none 0 0,.slice none 0 0,.slice none 0 0,.slice none 0 0,.slice none 0 0,.slice none 0 0] 35)
  rwa [z8] at this
 have ey:((w.alloc (.cells #[.string x.name,iV x.season.op,iV x.season.n,iV x.season.u,.string x.season.rn,iV x.season.ri,.slice a0 x.season.args.length p0,iV x.cap.op,iV x.cap.n,iV x.cap.u,.string x.cap.rn,iV x.cap.ri,.slice a1 x.cap.args.length p1,iV x.start.op,iV x.start.n,iV x.start.u,.string x.start.rn,iV x.start.ri,.slice a2 x.start.args.length p2,.slice L.lets.a L.lets.n L.lets.c,.slice L.crops.a L.crops.n L.crops.c,.slice L.reaches.a L.reaches.n L.reaches.c,.slice L.farms.a L.farms.n L.farms.c,.slice L.rots.a L.rots.n L.rots.c,.slice L.rights.a L.rights.n L.rights.c,.slice L.duties.a L.duties.n L.duties.c] 35)).alloc (.cells #[.string ⟨#[]⟩,iV 0,iV 0,iV 0,.string ⟨#[]⟩,iV 0,.slice none 0 0,iV 0,iV 0,iV 0,.string ⟨#[]⟩,iV 0,.slice none 0 0,iV 0,iV 0,iV 0,.string ⟨#[]⟩,iV 0,.slice none 0 0,.slice none 0 0,.slice none 0 0,.slice none 0 0,.slice none 0 0,.slice none 0 0,.slice none 0 0,.slice none 0 0] 35)).heap.size=w.heap.size+2:=by simp
 generalize (w.alloc (.cells #[.string x.name,iV x.season.op,iV x.season.n,iV x.season.u,.string x.season.rn,iV x.season.ri,.slice a0 x.season.args.length p0,iV x.cap.op,iV x.cap.n,iV x.cap.u,.string x.cap.rn,iV x.cap.ri,.slice a1 x.cap.args.length p1,iV x.start.op,iV x.start.n,iV x.start.u,.string x.start.rn,iV x.start.ri,.slice a2 x.start.args.length p2,.slice L.lets.a L.lets.n L.lets.c,.slice L.crops.a L.crops.n L.crops.c,.slice L.reaches.a L.reaches.n L.reaches.c,.slice L.farms.a L.farms.n L.farms.c,.slice L.rots.a L.rots.n L.rots.c,.slice L.rights.a L.rights.n L.rights.c,.slice L.duties.a L.duties.n L.duties.c] 35)).alloc (.cells #[.string ⟨#[]⟩,iV 0,iV 0,iV 0,.string ⟨#[]⟩,iV 0,.slice none 0 0,iV 0,iV 0,iV 0,.string ⟨#[]⟩,iV 0,.slice none 0 0,iV 0,iV 0,iV 0,.string ⟨#[]⟩,iV 0,.slice none 0 0,.slice none 0 0,.slice none 0 0,.slice none 0 0,.slice none 0 0,.slice none 0 0,.slice none 0 0,.slice none 0 0] 35)=W1 at*
 have cr:=yb fq;have gt:=yb f2;have gm:=yb fm;have aa:=yb ey
 clear fq f2 fm ey
 have bu:Hid (∀W,W1.grownBy W (some w.heap.size)->∀b,N b->W.heap[b]?=w.heap[b]?):=yb (fun W hW b hb=>(hW.block b (by have:=HN.o b hb;have:=aa.o;omega) (fun e=>by cases e;have:=HN.o _ hb;omega)).trans (cr.o.block b (HN.o b hb)))
 have bn:Hid (∀W,W1.grownBy W (some w.heap.size)->∀b,N b->b < W.heap.size):=yb (fun W hW b hb=>by have:=HN.o b hb;have:=aa.o;have:=hW.size;omega)
 have g3:Hid (W1.grownBy W1 (some w.heap.size)):=yb (KI _ _)
 refine A9 (A4 ?_)
 refine wp_region_noPanic ?_
 have fo:W1.drew.heap[w.heap.size]?=some (.cells #[.string x.name,iV x.season.op,iV x.season.n,iV x.season.u,.string x.season.rn,iV x.season.ri,.slice a0 x.season.args.length p0,iV x.cap.op,iV x.cap.n,iV x.cap.u,.string x.cap.rn,iV x.cap.ri,.slice a1 x.cap.args.length p1,iV x.start.op,iV x.start.n,iV x.start.u,.string x.start.rn,iV x.start.ri,.slice a2 x.start.args.length p2,.slice L.lets.a L.lets.n L.lets.c,.slice L.crops.a L.crops.n L.crops.c,.slice L.reaches.a L.reaches.n L.reaches.c,.slice L.farms.a L.farms.n L.farms.c,.slice L.rots.a L.rots.n L.rots.c,.slice L.rights.a L.rights.n L.rights.c,.slice L.duties.a L.duties.n L.duties.c] 35 (0,0)):=gt.o
 have bq:=yb fo
 clear fo
 refine DP (by kernel_rfl) (fun W=>W.heap[w.heap.size]?=some (.cells #[.string x.name,iV x.season.op,iV x.season.n,iV x.season.u,.string x.season.rn,iV x.season.ri,.slice a0 x.season.args.length p0,iV x.cap.op,iV x.cap.n,iV x.cap.u,.string x.cap.rn,iV x.cap.ri,.slice a1 x.cap.args.length p1,iV x.start.op,iV x.start.n,iV x.start.u,.string x.start.rn,iV x.start.ri,.slice a2 x.start.args.length p2,.slice L.lets.a L.lets.n L.lets.c,.slice L.crops.a L.crops.n L.crops.c,.slice L.reaches.a L.reaches.n L.reaches.c,.slice L.farms.a L.farms.n L.farms.c,.slice L.rots.a L.rots.n L.rots.c,.slice L.rights.a L.rights.n L.rights.c,.slice L.duties.a L.duties.n L.duties.c] 35 (0,0))) 13 ?_
 refine Ai (i:=0) (v:=pV w.heap.size 19) rfl (by kernel_rfl) (by kernel_rfl) (by kernel_rfl) (fun _ _ _ h=>h) (by kernel_rfl) (Or.inl ⟨by rfl,?_⟩) (fun _=>bq.o) ?_
 ·intro w _;go_simp
 refine Bb (i:=1) (v:=.slice L.lets.a L.lets.n L.lets.c) rfl (by kernel_rfl) (by kernel_rfl) (by kernel_rfl) (fun _ _ _ h=>h) (by kernel_rfl) (Or.inl ⟨by rfl,?_⟩) bq.o ?_
 ·intro W hW
  have hc:W.cell? (aV w.heap.size 19)=some (.slice L.lets.a L.lets.n L.lets.c):=by simp only[World.cell?,hW];rfl
  clear hW
  go_simp
 refine Ai (i:=3) (v:=pV w.heap.size 20) rfl (by kernel_rfl) (by kernel_rfl) (by kernel_rfl) (fun _ _ _ h=>h) (by kernel_rfl) (Or.inl ⟨by rfl,?_⟩) (fun _=>bq.o) ?_
 ·intro w _;go_simp
 refine Bb (i:=4) (v:=.slice L.crops.a L.crops.n L.crops.c) rfl (by kernel_rfl) (by kernel_rfl) (by kernel_rfl) (fun _ _ _ h=>h) (by kernel_rfl) (Or.inl ⟨by rfl,?_⟩) bq.o ?_
 ·intro W hW
  have hc:W.cell? (aV w.heap.size 20)=some (.slice L.crops.a L.crops.n L.crops.c):=by simp only[World.cell?,hW];rfl
  clear hW
  go_simp
 refine Ai (i:=6) (v:=pV w.heap.size 21) rfl (by kernel_rfl) (by kernel_rfl) (by kernel_rfl) (fun _ _ _ h=>h) (by kernel_rfl) (Or.inl ⟨by rfl,?_⟩) (fun _=>bq.o) ?_
 ·intro w _;go_simp
 refine Bb (i:=7) (v:=.slice L.reaches.a L.reaches.n L.reaches.c) rfl (by kernel_rfl) (by kernel_rfl) (by kernel_rfl) (fun _ _ _ h=>h) (by kernel_rfl) (Or.inl ⟨by rfl,?_⟩) bq.o ?_
 ·intro W hW
  have hc:W.cell? (aV w.heap.size 21)=some (.slice L.reaches.a L.reaches.n L.reaches.c):=by simp only[World.cell?,hW];rfl
  clear hW
  go_simp
 refine Ai (i:=9) (v:=pV w.heap.size 22) rfl (by kernel_rfl) (by kernel_rfl) (by kernel_rfl) (fun _ _ _ h=>h) (by kernel_rfl) (Or.inl ⟨by rfl,?_⟩) (fun _=>bq.o) ?_
 ·intro w _;go_simp
 refine Bb (i:=10) (v:=.slice L.farms.a L.farms.n L.farms.c) rfl (by kernel_rfl) (by kernel_rfl) (by kernel_rfl) (fun _ _ _ h=>h) (by kernel_rfl) (Or.inl ⟨by rfl,?_⟩) bq.o ?_
 ·intro W hW
  have hc:W.cell? (aV w.heap.size 22)=some (.slice L.farms.a L.farms.n L.farms.c):=by simp only[World.cell?,hW];rfl
  clear hW
  go_simp
 have bh:Hid (W1.grownBy W1.drew (some w.heap.size)):=yb (KJ g3.o)
 refine Al (i:=2) (by kernel_rfl) rfl (fun K hK=>?_)
 go_simp
 refine (Rz (HV.o.lets.same (fun _ h=>h) (bu.o _ bh.o) (fun _ _ h=>h)) (bn.o _ bh.o) QB b0.o.lets).mono ?_
 rintro e dz ⟨⟨Z,a7,a6⟩,rfl,bo,bt,ay⟩
 rw[show Au.v ⟨Z,a7,a6⟩=Value.slice Z a7 a6 from rfl]
 simp only at bo ay
 have bj:Hid (W1.grownBy dz (some w.heap.size)):=yb (AS bh.o (BN bt))
 have cq:Hid (dz.heap[w.heap.size]?=some (.cells #[.string x.name,iV x.season.op,iV x.season.n,iV x.season.u,.string x.season.rn,iV x.season.ri,.slice a0 x.season.args.length p0,iV x.cap.op,iV x.cap.n,iV x.cap.u,.string x.cap.rn,iV x.cap.ri,.slice a1 x.cap.args.length p1,iV x.start.op,iV x.start.n,iV x.start.u,.string x.start.rn,iV x.start.ri,.slice a2 x.start.args.length p2,.slice L.lets.a L.lets.n L.lets.c,.slice L.crops.a L.crops.n L.crops.c,.slice L.reaches.a L.reaches.n L.reaches.c,.slice L.farms.a L.farms.n L.farms.c,.slice L.rots.a L.rots.n L.rots.c,.slice L.rights.a L.rights.n L.rights.c,.slice L.duties.a L.duties.n L.duties.c] 35 (0,0))):=yb ((bt.block _ (by have:=bh.o.size;have:=aa.o;omega)).trans bq.o)
 have E:Hid (GI W1.heap.size dz 50 7 (JS N w) ⟨Z,a7,a6⟩ x.lets):=yb (GI.of bo (by exact bh.o.size) ay)
 clear bo bt ay
 refine hK.o _ _ (fun _=>cq.o) ?_
 clear hK K
 refine Al (i:=5) (by kernel_rfl) rfl (fun K hK=>?_)
 go_simp
 refine (PD (HV.o.crops.same (fun _ h=>h) (bu.o _ bj.o) (fun _ _ h=>h)) (bn.o _ bj.o) NW b0.o.crops).mono ?_
 rintro e e5 ⟨⟨F,H,G⟩,rfl,ba,au,ap⟩
 rw[show Au.v ⟨F,H,G⟩=Value.slice F H G from rfl]
 simp only at ba ap
 have bb:Hid (W1.grownBy e5 (some w.heap.size)):=yb (AS bj.o (BN au))
 have d6:Hid (e5.heap[w.heap.size]?=some (.cells #[.string x.name,iV x.season.op,iV x.season.n,iV x.season.u,.string x.season.rn,iV x.season.ri,.slice a0 x.season.args.length p0,iV x.cap.op,iV x.cap.n,iV x.cap.u,.string x.cap.rn,iV x.cap.ri,.slice a1 x.cap.args.length p1,iV x.start.op,iV x.start.n,iV x.start.u,.string x.start.rn,iV x.start.ri,.slice a2 x.start.args.length p2,.slice L.lets.a L.lets.n L.lets.c,.slice L.crops.a L.crops.n L.crops.c,.slice L.reaches.a L.reaches.n L.reaches.c,.slice L.farms.a L.farms.n L.farms.c,.slice L.rots.a L.rots.n L.rots.c,.slice L.rights.a L.rights.n L.rights.c,.slice L.duties.a L.duties.n L.duties.c] 35 (0,0))):=yb ((au.block _ (by have:=bj.o.size;have:=aa.o;omega)).trans cq.o)
 replace E:=yb (E.o.up (fun b _ f=>au.block b f))
 have C:Hid (GI W1.heap.size e5 92 7 (I6 N w) ⟨F,H,G⟩ x.crops):=yb (GI.of ba (by exact bj.o.size) ap)
 clear ba au ap
 refine hK.o _ _ (fun _=>d6.o) ?_
 clear hK K
 refine Al (i:=8) (by kernel_rfl) rfl (fun K hK=>?_)
 go_simp
 refine (NZ (HV.o.reaches.same (fun _ h=>h) (bu.o _ bb.o) (fun _ _ h=>h)) (bn.o _ bb.o) J9 b0.o.reaches).mono ?_
 rintro e ef ⟨⟨m,l,y⟩,rfl,ar,ah,ak⟩
 rw[show Au.v ⟨m,l,y⟩=Value.slice m l y from rfl]
 simp only at ar ak
 have bi:Hid (W1.grownBy ef (some w.heap.size)):=yb (AS bb.o (BN ah))
 have cz:Hid (ef.heap[w.heap.size]?=some (.cells #[.string x.name,iV x.season.op,iV x.season.n,iV x.season.u,.string x.season.rn,iV x.season.ri,.slice a0 x.season.args.length p0,iV x.cap.op,iV x.cap.n,iV x.cap.u,.string x.cap.rn,iV x.cap.ri,.slice a1 x.cap.args.length p1,iV x.start.op,iV x.start.n,iV x.start.u,.string x.start.rn,iV x.start.ri,.slice a2 x.start.args.length p2,.slice L.lets.a L.lets.n L.lets.c,.slice L.crops.a L.crops.n L.crops.c,.slice L.reaches.a L.reaches.n L.reaches.c,.slice L.farms.a L.farms.n L.farms.c,.slice L.rots.a L.rots.n L.rots.c,.slice L.rights.a L.rights.n L.rights.c,.slice L.duties.a L.duties.n L.duties.c] 35 (0,0))):=yb ((ah.block _ (by have:=bb.o.size;have:=aa.o;omega)).trans d6.o)
 replace E:=yb (E.o.up (fun b _ f=>ah.block b f))
 replace C:=yb (C.o.up (fun b _ f=>ah.block b f))
 have A:Hid (GI W1.heap.size ef 66 51 (F8 N w) ⟨m,l,y⟩ x.reaches):=yb (GI.of ar (by exact bb.o.size) ak)
 clear ar ah ak
 refine hK.o _ _ (fun _=>cz.o) ?_
 clear hK K
 refine Al (i:=11) (by kernel_rfl) rfl (fun K hK=>?_)
 go_simp
 refine (PE (HV.o.farms.same (fun _ h=>h) (bu.o _ bi.o) (fun _ _ h=>h)) (bn.o _ bi.o) NX b0.o.farms).mono ?_
 rintro e cc ⟨⟨T,nfarms,S⟩,rfl,b8,ai,aq⟩
 rw[show Au.v ⟨T,nfarms,S⟩=Value.slice T nfarms S from rfl]
 simp only at b8 aq
 have dt:Hid (W1.grownBy cc (some w.heap.size)):=yb (AS bi.o (BN ai))
 have ax:Hid (cc.heap[w.heap.size]?=some (.cells #[.string x.name,iV x.season.op,iV x.season.n,iV x.season.u,.string x.season.rn,iV x.season.ri,.slice a0 x.season.args.length p0,iV x.cap.op,iV x.cap.n,iV x.cap.u,.string x.cap.rn,iV x.cap.ri,.slice a1 x.cap.args.length p1,iV x.start.op,iV x.start.n,iV x.start.u,.string x.start.rn,iV x.start.ri,.slice a2 x.start.args.length p2,.slice L.lets.a L.lets.n L.lets.c,.slice L.crops.a L.crops.n L.crops.c,.slice L.reaches.a L.reaches.n L.reaches.c,.slice L.farms.a L.farms.n L.farms.c,.slice L.rots.a L.rots.n L.rots.c,.slice L.rights.a L.rights.n L.rights.c,.slice L.duties.a L.duties.n L.duties.c] 35 (0,0))):=yb ((ai.block _ (by have:=bi.o.size;have:=aa.o;omega)).trans cz.o)
 replace E:=yb (E.o.up (fun b _ f=>ai.block b f))
 replace C:=yb (C.o.up (fun b _ f=>ai.block b f))
 replace A:=yb (A.o.up (fun b _ f=>ai.block b f))
 have X:Hid (GI W1.heap.size cc 94 12 (I7 N w) ⟨T,nfarms,S⟩ x.farms):=yb (GI.of b8 (by exact bi.o.size) aq)
 clear b8 ai aq
 refine hK.o _ _ (fun _=>ax.o) ?_
 clear hK K
 refine Ai (i:=12) (v:=pV w.heap.size 19) rfl (by kernel_rfl) (by kernel_rfl) (by kernel_rfl) (fun _ _ _ h=>h) (by kernel_rfl) (Or.inl ⟨by rfl,?_⟩) (by first|exact fun _=>ax.o|(intro h;cases h)) ?_
 ·intro w _;go_simp
 refine Al (i:=13) (by kernel_rfl) rfl (fun K hK=>?_)
 have hc:cc.cell? (aV w.heap.size 19)=some (.slice L.lets.a L.lets.n L.lets.c):=by simp only[World.cell?,ax.o];rfl
 have hf:cc.frozen? (aV w.heap.size 19)=false:=by simp[World.frozen?,ax.o]
 go_simp
 have bz:Hid ((cc.setCell (aV w.heap.size 19) (.slice Z a7 a6)).heap[w.heap.size]?=some (.cells #[.string x.name,iV x.season.op,iV x.season.n,iV x.season.u,.string x.season.rn,iV x.season.ri,.slice a0 x.season.args.length p0,iV x.cap.op,iV x.cap.n,iV x.cap.u,.string x.cap.rn,iV x.cap.ri,.slice a1 x.cap.args.length p1,iV x.start.op,iV x.start.n,iV x.start.u,.string x.start.rn,iV x.start.ri,.slice a2 x.start.args.length p2,.slice Z a7 a6,.slice L.crops.a L.crops.n L.crops.c,.slice L.reaches.a L.reaches.n L.reaches.c,.slice L.farms.a L.farms.n L.farms.c,.slice L.rots.a L.rots.n L.rots.c,.slice L.rights.a L.rights.n L.rights.c,.slice L.duties.a L.duties.n L.duties.c] 35 (0,0))):=yb (by
  have:=zp cc w.heap.size 19 _ _ (.slice Z a7 a6) ax.o
  rw[this];rfl)
 replace E:=yb (E.o.up (fun b hB f=>(Ac (.slice Z a7 a6) hc).1.block b f (fun e=>by cases e;have:=aa.o;omega)))
 replace C:=yb (C.o.up (fun b hB f=>(Ac (.slice Z a7 a6) hc).1.block b f (fun e=>by cases e;have:=aa.o;omega)))
 replace A:=yb (A.o.up (fun b hB f=>(Ac (.slice Z a7 a6) hc).1.block b f (fun e=>by cases e;have:=aa.o;omega)))
 replace X:=yb (X.o.up (fun b hB f=>(Ac (.slice Z a7 a6) hc).1.block b f (fun e=>by cases e;have:=aa.o;omega)))
 have es:=yb (AS dt.o (Ac (.slice Z a7 a6) hc).1)
 clear hc hf
 generalize cc.setCell (aV w.heap.size 19) (.slice Z a7 a6)=d5 at*
 refine hK.o _ _ (by first|(intro h;cases h;done)|exact fun _=>ax.o) ?_
 clear hK K
 refine Ai (i:=14) (v:=pV w.heap.size 20) rfl (by kernel_rfl) (by kernel_rfl) (by kernel_rfl) (fun _ _ _ h=>h) (by kernel_rfl) (Or.inl ⟨by rfl,?_⟩) (by first|exact fun _=>bz.o|(intro h;cases h)) ?_
 ·intro w _;go_simp
 refine Al (i:=15) (by kernel_rfl) rfl (fun K hK=>?_)
 have hc:d5.cell? (aV w.heap.size 20)=some (.slice L.crops.a L.crops.n L.crops.c):=by simp only[World.cell?,bz.o];rfl
 have hf:d5.frozen? (aV w.heap.size 20)=false:=by simp[World.frozen?,bz.o]
 go_simp
 have c9:Hid ((d5.setCell (aV w.heap.size 20) (.slice F H G)).heap[w.heap.size]?=some (.cells #[.string x.name,iV x.season.op,iV x.season.n,iV x.season.u,.string x.season.rn,iV x.season.ri,.slice a0 x.season.args.length p0,iV x.cap.op,iV x.cap.n,iV x.cap.u,.string x.cap.rn,iV x.cap.ri,.slice a1 x.cap.args.length p1,iV x.start.op,iV x.start.n,iV x.start.u,.string x.start.rn,iV x.start.ri,.slice a2 x.start.args.length p2,.slice Z a7 a6,.slice F H G,.slice L.reaches.a L.reaches.n L.reaches.c,.slice L.farms.a L.farms.n L.farms.c,.slice L.rots.a L.rots.n L.rots.c,.slice L.rights.a L.rights.n L.rights.c,.slice L.duties.a L.duties.n L.duties.c] 35 (0,0))):=yb (by
  have:=zp d5 w.heap.size 20 _ _ (.slice F H G) bz.o
  rw[this];rfl)
 replace E:=yb (E.o.up (fun b hB f=>(Ac (.slice F H G) hc).1.block b f (fun e=>by cases e;have:=aa.o;omega)))
 replace C:=yb (C.o.up (fun b hB f=>(Ac (.slice F H G) hc).1.block b f (fun e=>by cases e;have:=aa.o;omega)))
 replace A:=yb (A.o.up (fun b hB f=>(Ac (.slice F H G) hc).1.block b f (fun e=>by cases e;have:=aa.o;omega)))
 replace X:=yb (X.o.up (fun b hB f=>(Ac (.slice F H G) hc).1.block b f (fun e=>by cases e;have:=aa.o;omega)))
 have fe:=yb (AS es.o (Ac (.slice F H G) hc).1)
 clear hc hf
 generalize d5.setCell (aV w.heap.size 20) (.slice F H G)=ct at*
 refine hK.o _ _ (by first|(intro h;cases h;done)|exact fun _=>bz.o) ?_
 clear hK K
 refine Ai (i:=16) (v:=pV w.heap.size 21) rfl (by kernel_rfl) (by kernel_rfl) (by kernel_rfl) (fun _ _ _ h=>h) (by kernel_rfl) (Or.inl ⟨by rfl,?_⟩) (by first|exact fun _=>c9.o|(intro h;cases h)) ?_
 ·intro w _;go_simp
 refine Al (i:=17) (by kernel_rfl) rfl (fun K hK=>?_)
 have hc:ct.cell? (aV w.heap.size 21)=some (.slice L.reaches.a L.reaches.n L.reaches.c):=by simp only[World.cell?,c9.o];rfl
 have hf:ct.frozen? (aV w.heap.size 21)=false:=by simp[World.frozen?,c9.o]
 go_simp
 have bw:Hid ((ct.setCell (aV w.heap.size 21) (.slice m l y)).heap[w.heap.size]?=some (.cells #[.string x.name,iV x.season.op,iV x.season.n,iV x.season.u,.string x.season.rn,iV x.season.ri,.slice a0 x.season.args.length p0,iV x.cap.op,iV x.cap.n,iV x.cap.u,.string x.cap.rn,iV x.cap.ri,.slice a1 x.cap.args.length p1,iV x.start.op,iV x.start.n,iV x.start.u,.string x.start.rn,iV x.start.ri,.slice a2 x.start.args.length p2,.slice Z a7 a6,.slice F H G,.slice m l y,.slice L.farms.a L.farms.n L.farms.c,.slice L.rots.a L.rots.n L.rots.c,.slice L.rights.a L.rights.n L.rights.c,.slice L.duties.a L.duties.n L.duties.c] 35 (0,0))):=yb (by
  have:=zp ct w.heap.size 21 _ _ (.slice m l y) c9.o
  rw[this];rfl)
 replace E:=yb (E.o.up (fun b hB f=>(Ac (.slice m l y) hc).1.block b f (fun e=>by cases e;have:=aa.o;omega)))
 replace C:=yb (C.o.up (fun b hB f=>(Ac (.slice m l y) hc).1.block b f (fun e=>by cases e;have:=aa.o;omega)))
 replace A:=yb (A.o.up (fun b hB f=>(Ac (.slice m l y) hc).1.block b f (fun e=>by cases e;have:=aa.o;omega)))
 replace X:=yb (X.o.up (fun b hB f=>(Ac (.slice m l y) hc).1.block b f (fun e=>by cases e;have:=aa.o;omega)))
 have fb:=yb (AS fe.o (Ac (.slice m l y) hc).1)
 clear hc hf
 generalize ct.setCell (aV w.heap.size 21) (.slice m l y)=cy at*
 refine hK.o _ _ (by first|(intro h;cases h;done)|exact fun _=>c9.o) ?_
 clear hK K
 refine Ai (i:=18) (v:=pV w.heap.size 22) rfl (by kernel_rfl) (by kernel_rfl) (by kernel_rfl) (fun _ _ _ h=>h) (by kernel_rfl) (Or.inl ⟨by rfl,?_⟩) (by first|exact fun _=>bw.o|(intro h;cases h)) ?_
 ·intro w _;go_simp
 refine Al (i:=19) (by kernel_rfl) rfl (fun K hK=>?_)
 have hc:cy.cell? (aV w.heap.size 22)=some (.slice L.farms.a L.farms.n L.farms.c):=by simp only[World.cell?,bw.o];rfl
 have hf:cy.frozen? (aV w.heap.size 22)=false:=by simp[World.frozen?,bw.o]
 go_simp
 have f0:Hid ((cy.setCell (aV w.heap.size 22) (.slice T nfarms S)).heap[w.heap.size]?=some (.cells #[.string x.name,iV x.season.op,iV x.season.n,iV x.season.u,.string x.season.rn,iV x.season.ri,.slice a0 x.season.args.length p0,iV x.cap.op,iV x.cap.n,iV x.cap.u,.string x.cap.rn,iV x.cap.ri,.slice a1 x.cap.args.length p1,iV x.start.op,iV x.start.n,iV x.start.u,.string x.start.rn,iV x.start.ri,.slice a2 x.start.args.length p2,.slice Z a7 a6,.slice F H G,.slice m l y,.slice T nfarms S,.slice L.rots.a L.rots.n L.rots.c,.slice L.rights.a L.rights.n L.rights.c,.slice L.duties.a L.duties.n L.duties.c] 35 (0,0))):=yb (by
  have:=zp cy w.heap.size 22 _ _ (.slice T nfarms S) bw.o
  rw[this];rfl)
 replace E:=yb (E.o.up (fun b hB f=>(Ac (.slice T nfarms S) hc).1.block b f (fun e=>by cases e;have:=aa.o;omega)))
 replace C:=yb (C.o.up (fun b hB f=>(Ac (.slice T nfarms S) hc).1.block b f (fun e=>by cases e;have:=aa.o;omega)))
 replace A:=yb (A.o.up (fun b hB f=>(Ac (.slice T nfarms S) hc).1.block b f (fun e=>by cases e;have:=aa.o;omega)))
 replace X:=yb (X.o.up (fun b hB f=>(Ac (.slice T nfarms S) hc).1.block b f (fun e=>by cases e;have:=aa.o;omega)))
 have fd:=yb (AS fb.o (Ac (.slice T nfarms S) hc).1)
 clear hc hf
 generalize cy.setCell (aV w.heap.size 22) (.slice T nfarms S)=fc at*
 refine hK.o _ _ (by first|(intro h;cases h;done)|exact fun _=>bw.o) ?_
 clear hK K
 refine DO (by kernel_rfl) ?_
 refine NoPanic.normal ?_
 simp only[Exit.then]
 refine A9 (A4 ?_)
 refine wp_region_noPanic ?_
 have f9:fc.drew.heap[w.heap.size]?=some (.cells #[.string x.name,iV x.season.op,iV x.season.n,iV x.season.u,.string x.season.rn,iV x.season.ri,.slice a0 x.season.args.length p0,iV x.cap.op,iV x.cap.n,iV x.cap.u,.string x.cap.rn,iV x.cap.ri,.slice a1 x.cap.args.length p1,iV x.start.op,iV x.start.n,iV x.start.u,.string x.start.rn,iV x.start.ri,.slice a2 x.start.args.length p2,.slice Z a7 a6,.slice F H G,.slice m l y,.slice T nfarms S,.slice L.rots.a L.rots.n L.rots.c,.slice L.rights.a L.rights.n L.rights.c,.slice L.duties.a L.duties.n L.duties.c] 35 (0,0)):=f0.o
 have cg:=yb f9
 clear f9
 refine DP (by kernel_rfl) (fun W=>W.heap[w.heap.size]?=some (.cells #[.string x.name,iV x.season.op,iV x.season.n,iV x.season.u,.string x.season.rn,iV x.season.ri,.slice a0 x.season.args.length p0,iV x.cap.op,iV x.cap.n,iV x.cap.u,.string x.cap.rn,iV x.cap.ri,.slice a1 x.cap.args.length p1,iV x.start.op,iV x.start.n,iV x.start.u,.string x.start.rn,iV x.start.ri,.slice a2 x.start.args.length p2,.slice Z a7 a6,.slice F H G,.slice m l y,.slice T nfarms S,.slice L.rots.a L.rots.n L.rots.c,.slice L.rights.a L.rights.n L.rights.c,.slice L.duties.a L.duties.n L.duties.c] 35 (0,0))) 10 ?_
 refine Ai (i:=0) (v:=pV w.heap.size 23) rfl (by kernel_rfl) (by kernel_rfl) (by kernel_rfl) (fun _ _ _ h=>h) (by kernel_rfl) (Or.inl ⟨by rfl,?_⟩) (fun _=>cg.o) ?_
 ·intro w _;go_simp
 refine Bb (i:=1) (v:=.slice L.rots.a L.rots.n L.rots.c) rfl (by kernel_rfl) (by kernel_rfl) (by kernel_rfl) (fun _ _ _ h=>h) (by kernel_rfl) (Or.inl ⟨by rfl,?_⟩) cg.o ?_
 ·intro W hW
  have hc:W.cell? (aV w.heap.size 23)=some (.slice L.rots.a L.rots.n L.rots.c):=by simp only[World.cell?,hW];rfl
  clear hW
  go_simp
 refine Ai (i:=3) (v:=pV w.heap.size 24) rfl (by kernel_rfl) (by kernel_rfl) (by kernel_rfl) (fun _ _ _ h=>h) (by kernel_rfl) (Or.inl ⟨by rfl,?_⟩) (fun _=>cg.o) ?_
 ·intro w _;go_simp
 refine Bb (i:=4) (v:=.slice L.rights.a L.rights.n L.rights.c) rfl (by kernel_rfl) (by kernel_rfl) (by kernel_rfl) (fun _ _ _ h=>h) (by kernel_rfl) (Or.inl ⟨by rfl,?_⟩) cg.o ?_
 ·intro W hW
  have hc:W.cell? (aV w.heap.size 24)=some (.slice L.rights.a L.rights.n L.rights.c):=by simp only[World.cell?,hW];rfl
  clear hW
  go_simp
 refine Ai (i:=6) (v:=pV w.heap.size 25) rfl (by kernel_rfl) (by kernel_rfl) (by kernel_rfl) (fun _ _ _ h=>h) (by kernel_rfl) (Or.inl ⟨by rfl,?_⟩) (fun _=>cg.o) ?_
 ·intro w _;go_simp
 refine Bb (i:=7) (v:=.slice L.duties.a L.duties.n L.duties.c) rfl (by kernel_rfl) (by kernel_rfl) (by kernel_rfl) (fun _ _ _ h=>h) (by kernel_rfl) (Or.inl ⟨by rfl,?_⟩) cg.o ?_
 ·intro W hW
  have hc:W.cell? (aV w.heap.size 25)=some (.slice L.duties.a L.duties.n L.duties.c):=by simp only[World.cell?,hW];rfl
  clear hW
  go_simp
 have be:Hid (W1.grownBy fc.drew (some w.heap.size)):=yb (KJ fd.o)
 refine Al (i:=2) (by kernel_rfl) rfl (fun K hK=>?_)
 go_simp
 refine (RC (Q:=(fun cs (d:Br × Nat)=>GW N w (A2 L d.2) cs d.1)) (T3 (HV.o.rots) (bu.o _ be.o)) (bn.o _ be.o) T2 (by rw[zC];exact b0.o.rots)).mono ?_
 rintro e eh ⟨⟨a8,nrots,Y⟩,rfl,bp,aj,az⟩
 rw[show Au.v ⟨a8,nrots,Y⟩=Value.slice a8 nrots Y from rfl]
 simp only at bp az
 have bk:Hid (W1.grownBy eh (some w.heap.size)):=yb (AS be.o (BN aj))
 have d2:Hid (eh.heap[w.heap.size]?=some (.cells #[.string x.name,iV x.season.op,iV x.season.n,iV x.season.u,.string x.season.rn,iV x.season.ri,.slice a0 x.season.args.length p0,iV x.cap.op,iV x.cap.n,iV x.cap.u,.string x.cap.rn,iV x.cap.ri,.slice a1 x.cap.args.length p1,iV x.start.op,iV x.start.n,iV x.start.u,.string x.start.rn,iV x.start.ri,.slice a2 x.start.args.length p2,.slice Z a7 a6,.slice F H G,.slice m l y,.slice T nfarms S,.slice L.rots.a L.rots.n L.rots.c,.slice L.rights.a L.rights.n L.rights.c,.slice L.duties.a L.duties.n L.duties.c] 35 (0,0))):=yb ((aj.block _ (by have:=be.o.size;have:=aa.o;omega)).trans cg.o)
 replace E:=yb (E.o.up (fun b _ f=>aj.block b f))
 replace C:=yb (C.o.up (fun b _ f=>aj.block b f))
 replace A:=yb (A.o.up (fun b _ f=>aj.block b f))
 replace X:=yb (X.o.up (fun b _ f=>aj.block b f))
 have ab:Hid (GI W1.heap.size eh 109 23 (fun cs (d:Br × Nat)=>GW N w (A2 L d.2) cs d.1) ⟨a8,nrots,Y⟩ x.rots.zipIdx):=yb (GI.of bp (by exact be.o.size) az)
 clear bp aj az
 refine hK.o _ _ (fun _=>d2.o) ?_
 clear hK K
 refine Al (i:=5) (by kernel_rfl) rfl (fun K hK=>?_)
 go_simp
 refine (O0 (HV.o.rights.same (fun _ h=>h) (bu.o _ bk.o) (fun _ _ h=>h)) (bn.o _ bk.o) Ja b0.o.rights).mono ?_
 rintro e ee ⟨⟨J,nrights,I⟩,rfl,b5,af,am⟩
 rw[show Au.v ⟨J,nrights,I⟩=Value.slice J nrights I from rfl]
 simp only at b5 am
 have bg:Hid (W1.grownBy ee (some w.heap.size)):=yb (AS bk.o (BN af))
 have cx:Hid (ee.heap[w.heap.size]?=some (.cells #[.string x.name,iV x.season.op,iV x.season.n,iV x.season.u,.string x.season.rn,iV x.season.ri,.slice a0 x.season.args.length p0,iV x.cap.op,iV x.cap.n,iV x.cap.u,.string x.cap.rn,iV x.cap.ri,.slice a1 x.cap.args.length p1,iV x.start.op,iV x.start.n,iV x.start.u,.string x.start.rn,iV x.start.ri,.slice a2 x.start.args.length p2,.slice Z a7 a6,.slice F H G,.slice m l y,.slice T nfarms S,.slice L.rots.a L.rots.n L.rots.c,.slice L.rights.a L.rights.n L.rights.c,.slice L.duties.a L.duties.n L.duties.c] 35 (0,0))):=yb ((af.block _ (by have:=bk.o.size;have:=aa.o;omega)).trans d2.o)
 replace E:=yb (E.o.up (fun b _ f=>af.block b f))
 replace C:=yb (C.o.up (fun b _ f=>af.block b f))
 replace A:=yb (A.o.up (fun b _ f=>af.block b f))
 replace X:=yb (X.o.up (fun b _ f=>af.block b f))
 replace ab:=yb (ab.o.up (fun b _ f=>af.block b f))
 have ac:Hid (GI W1.heap.size ee 131 37 (F9 N w) ⟨J,nrights,I⟩ x.rights):=yb (GI.of b5 (by exact bk.o.size) am)
 clear b5 af am
 refine hK.o _ _ (fun _=>cx.o) ?_
 clear hK K
 refine Al (i:=8) (by kernel_rfl) rfl (fun K hK=>?_)
 go_simp
 refine (PF (HV.o.duties.same (fun _ h=>h) (bu.o _ bg.o) (fun _ _ h=>h)) (bn.o _ bg.o) NY b0.o.duties).mono ?_
 rintro e bv ⟨⟨R,nduties,P⟩,rfl,b4,ad,an⟩
 rw[show Au.v ⟨R,nduties,P⟩=Value.slice R nduties P from rfl]
 simp only at b4 an
 have dr:Hid (W1.grownBy bv (some w.heap.size)):=yb (AS bg.o (BN ad))
 have av:Hid (bv.heap[w.heap.size]?=some (.cells #[.string x.name,iV x.season.op,iV x.season.n,iV x.season.u,.string x.season.rn,iV x.season.ri,.slice a0 x.season.args.length p0,iV x.cap.op,iV x.cap.n,iV x.cap.u,.string x.cap.rn,iV x.cap.ri,.slice a1 x.cap.args.length p1,iV x.start.op,iV x.start.n,iV x.start.u,.string x.start.rn,iV x.start.ri,.slice a2 x.start.args.length p2,.slice Z a7 a6,.slice F H G,.slice m l y,.slice T nfarms S,.slice L.rots.a L.rots.n L.rots.c,.slice L.rights.a L.rights.n L.rights.c,.slice L.duties.a L.duties.n L.duties.c] 35 (0,0))):=yb ((ad.block _ (by have:=bg.o.size;have:=aa.o;omega)).trans cx.o)
 replace E:=yb (E.o.up (fun b _ f=>ad.block b f))
 replace C:=yb (C.o.up (fun b _ f=>ad.block b f))
 replace A:=yb (A.o.up (fun b _ f=>ad.block b f))
 replace X:=yb (X.o.up (fun b _ f=>ad.block b f))
 replace ab:=yb (ab.o.up (fun b _ f=>ad.block b f))
 replace ac:=yb (ac.o.up (fun b _ f=>ad.block b f))
 have ae:Hid (GI W1.heap.size bv 135 11 (I8 N w) ⟨R,nduties,P⟩ x.duties):=yb (GI.of b4 (by exact bg.o.size) an)
 clear b4 ad an
 refine hK.o _ _ (fun _=>av.o) ?_
 clear hK K
 refine Ai (i:=9) (v:=pV w.heap.size 23) rfl (by kernel_rfl) (by kernel_rfl) (by kernel_rfl) (fun _ _ _ h=>h) (by kernel_rfl) (Or.inl ⟨by rfl,?_⟩) (by first|exact fun _=>av.o|(intro h;cases h)) ?_
 ·intro w _;go_simp
 refine Al (i:=10) (by kernel_rfl) rfl (fun K hK=>?_)
 have hc:bv.cell? (aV w.heap.size 23)=some (.slice L.rots.a L.rots.n L.rots.c):=by simp only[World.cell?,av.o];rfl
 have hf:bv.frozen? (aV w.heap.size 23)=false:=by simp[World.frozen?,av.o]
 go_simp
 have c8:Hid ((bv.setCell (aV w.heap.size 23) (.slice a8 nrots Y)).heap[w.heap.size]?=some (.cells #[.string x.name,iV x.season.op,iV x.season.n,iV x.season.u,.string x.season.rn,iV x.season.ri,.slice a0 x.season.args.length p0,iV x.cap.op,iV x.cap.n,iV x.cap.u,.string x.cap.rn,iV x.cap.ri,.slice a1 x.cap.args.length p1,iV x.start.op,iV x.start.n,iV x.start.u,.string x.start.rn,iV x.start.ri,.slice a2 x.start.args.length p2,.slice Z a7 a6,.slice F H G,.slice m l y,.slice T nfarms S,.slice a8 nrots Y,.slice L.rights.a L.rights.n L.rights.c,.slice L.duties.a L.duties.n L.duties.c] 35 (0,0))):=yb (by
  have:=zp bv w.heap.size 23 _ _ (.slice a8 nrots Y) av.o
  rw[this];rfl)
 replace E:=yb (E.o.up (fun b hB f=>(Ac (.slice a8 nrots Y) hc).1.block b f (fun e=>by cases e;have:=aa.o;omega)))
 replace C:=yb (C.o.up (fun b hB f=>(Ac (.slice a8 nrots Y) hc).1.block b f (fun e=>by cases e;have:=aa.o;omega)))
 replace A:=yb (A.o.up (fun b hB f=>(Ac (.slice a8 nrots Y) hc).1.block b f (fun e=>by cases e;have:=aa.o;omega)))
 replace X:=yb (X.o.up (fun b hB f=>(Ac (.slice a8 nrots Y) hc).1.block b f (fun e=>by cases e;have:=aa.o;omega)))
 replace ab:=yb (ab.o.up (fun b hB f=>(Ac (.slice a8 nrots Y) hc).1.block b f (fun e=>by cases e;have:=aa.o;omega)))
 replace ac:=yb (ac.o.up (fun b hB f=>(Ac (.slice a8 nrots Y) hc).1.block b f (fun e=>by cases e;have:=aa.o;omega)))
 replace ae:=yb (ae.o.up (fun b hB f=>(Ac (.slice a8 nrots Y) hc).1.block b f (fun e=>by cases e;have:=aa.o;omega)))
 have ez:=yb (AS dr.o (Ac (.slice a8 nrots Y) hc).1)
 clear hc hf
 generalize bv.setCell (aV w.heap.size 23) (.slice a8 nrots Y)=da at*
 refine hK.o _ _ (by first|(intro h;cases h;done)|exact fun _=>av.o) ?_
 clear hK K
 refine Ai (i:=11) (v:=pV w.heap.size 24) rfl (by kernel_rfl) (by kernel_rfl) (by kernel_rfl) (fun _ _ _ h=>h) (by kernel_rfl) (Or.inl ⟨by rfl,?_⟩) (by first|exact fun _=>c8.o|(intro h;cases h)) ?_
 ·intro w _;go_simp
 refine Al (i:=12) (by kernel_rfl) rfl (fun K hK=>?_)
 have hc:da.cell? (aV w.heap.size 24)=some (.slice L.rights.a L.rights.n L.rights.c):=by simp only[World.cell?,c8.o];rfl
 have hf:da.frozen? (aV w.heap.size 24)=false:=by simp[World.frozen?,c8.o]
 go_simp
 have cd:Hid ((da.setCell (aV w.heap.size 24) (.slice J nrights I)).heap[w.heap.size]?=some (.cells #[.string x.name,iV x.season.op,iV x.season.n,iV x.season.u,.string x.season.rn,iV x.season.ri,.slice a0 x.season.args.length p0,iV x.cap.op,iV x.cap.n,iV x.cap.u,.string x.cap.rn,iV x.cap.ri,.slice a1 x.cap.args.length p1,iV x.start.op,iV x.start.n,iV x.start.u,.string x.start.rn,iV x.start.ri,.slice a2 x.start.args.length p2,.slice Z a7 a6,.slice F H G,.slice m l y,.slice T nfarms S,.slice a8 nrots Y,.slice J nrights I,.slice L.duties.a L.duties.n L.duties.c] 35 (0,0))):=yb (by
  have:=zp da w.heap.size 24 _ _ (.slice J nrights I) c8.o
  rw[this];rfl)
 replace E:=yb (E.o.up (fun b hB f=>(Ac (.slice J nrights I) hc).1.block b f (fun e=>by cases e;have:=aa.o;omega)))
 replace C:=yb (C.o.up (fun b hB f=>(Ac (.slice J nrights I) hc).1.block b f (fun e=>by cases e;have:=aa.o;omega)))
 replace A:=yb (A.o.up (fun b hB f=>(Ac (.slice J nrights I) hc).1.block b f (fun e=>by cases e;have:=aa.o;omega)))
 replace X:=yb (X.o.up (fun b hB f=>(Ac (.slice J nrights I) hc).1.block b f (fun e=>by cases e;have:=aa.o;omega)))
 replace ab:=yb (ab.o.up (fun b hB f=>(Ac (.slice J nrights I) hc).1.block b f (fun e=>by cases e;have:=aa.o;omega)))
 replace ac:=yb (ac.o.up (fun b hB f=>(Ac (.slice J nrights I) hc).1.block b f (fun e=>by cases e;have:=aa.o;omega)))
 replace ae:=yb (ae.o.up (fun b hB f=>(Ac (.slice J nrights I) hc).1.block b f (fun e=>by cases e;have:=aa.o;omega)))
 have f7:=yb (AS ez.o (Ac (.slice J nrights I) hc).1)
 clear hc hf
 generalize da.setCell (aV w.heap.size 24) (.slice J nrights I)=cv at*
 refine hK.o _ _ (by first|(intro h;cases h;done)|exact fun _=>c8.o) ?_
 clear hK K
 refine Ai (i:=13) (v:=pV w.heap.size 25) rfl (by kernel_rfl) (by kernel_rfl) (by kernel_rfl) (fun _ _ _ h=>h) (by kernel_rfl) (Or.inl ⟨by rfl,?_⟩) (by first|exact fun _=>cd.o|(intro h;cases h)) ?_
 ·intro w _;go_simp
 refine Al (i:=14) (by kernel_rfl) rfl (fun K hK=>?_)
 have hc:cv.cell? (aV w.heap.size 25)=some (.slice L.duties.a L.duties.n L.duties.c):=by simp only[World.cell?,cd.o];rfl
 have hf:cv.frozen? (aV w.heap.size 25)=false:=by simp[World.frozen?,cd.o]
 go_simp
 have el:Hid ((cv.setCell (aV w.heap.size 25) (.slice R nduties P)).heap[w.heap.size]?=some (.cells #[.string x.name,iV x.season.op,iV x.season.n,iV x.season.u,.string x.season.rn,iV x.season.ri,.slice a0 x.season.args.length p0,iV x.cap.op,iV x.cap.n,iV x.cap.u,.string x.cap.rn,iV x.cap.ri,.slice a1 x.cap.args.length p1,iV x.start.op,iV x.start.n,iV x.start.u,.string x.start.rn,iV x.start.ri,.slice a2 x.start.args.length p2,.slice Z a7 a6,.slice F H G,.slice m l y,.slice T nfarms S,.slice a8 nrots Y,.slice J nrights I,.slice R nduties P] 35 (0,0))):=yb (by
  have:=zp cv w.heap.size 25 _ _ (.slice R nduties P) cd.o
  rw[this];rfl)
 replace E:=yb (E.o.up (fun b hB f=>(Ac (.slice R nduties P) hc).1.block b f (fun e=>by cases e;have:=aa.o;omega)))
 replace C:=yb (C.o.up (fun b hB f=>(Ac (.slice R nduties P) hc).1.block b f (fun e=>by cases e;have:=aa.o;omega)))
 replace A:=yb (A.o.up (fun b hB f=>(Ac (.slice R nduties P) hc).1.block b f (fun e=>by cases e;have:=aa.o;omega)))
 replace X:=yb (X.o.up (fun b hB f=>(Ac (.slice R nduties P) hc).1.block b f (fun e=>by cases e;have:=aa.o;omega)))
 replace ab:=yb (ab.o.up (fun b hB f=>(Ac (.slice R nduties P) hc).1.block b f (fun e=>by cases e;have:=aa.o;omega)))
 replace ac:=yb (ac.o.up (fun b hB f=>(Ac (.slice R nduties P) hc).1.block b f (fun e=>by cases e;have:=aa.o;omega)))
 replace ae:=yb (ae.o.up (fun b hB f=>(Ac (.slice R nduties P) hc).1.block b f (fun e=>by cases e;have:=aa.o;omega)))
 have fx:=yb (AS f7.o (Ac (.slice R nduties P) hc).1)
 clear hc hf
 generalize cv.setCell (aV w.heap.size 25) (.slice R nduties P)=gn at*
 refine hK.o _ _ (by first|(intro h;cases h;done)|exact fun _=>cd.o) ?_
 clear hK K
 refine DO (by kernel_rfl) ?_
 refine NoPanic.normal ?_
 simp only[Exit.then]
 obtain ⟨U,rfl⟩:∃z:World,z=gn:=⟨_,rfl⟩
 have HQ:=yb el.o
 have HP:=yb fx.o
 have dm:nrots=x.rots.length:=by have:=ab.o.1;simp only[zC] at this;exact this
 have gj:nrots<=100000:=by rw[dm];exact b0.o.rots
 have dd:=yb dm
 clear dm
 have ck:U.cell? (aV w.heap.size 23)=some (.slice a8 nrots Y):=by simp only[World.cell?,HQ.o];rfl
 refine A9 (A4 ?_)
 go_wp2
 clear ck
 go_loopw [37] (fun iv wr=>∃hs:List Au,hs.length<=nrots∧iv=iV (hs.length:Int)∧Hid (VC U a8 N w x.rots hs wr)) (fun iv _=>nrots - (intOf iv).toNat)
 case atStart=>exact ⟨[],yK _,rfl,yb ⟨KI _ _,yK _,fun _ _ _ h=>h,fun _ _ _ _=>rfl,fun j hj=>by simp at hj⟩⟩
 case round=>
  obtain ⟨hs,hi,rfl,ag⟩:=hrel
  obtain ⟨i,cn⟩:∃i,i=hs.length:=⟨_,rfl⟩
  rw[<-cn] at hi ⊢
  by_cases f:i < nrots
  ·have g6:i < x.rots.zipIdx.length:=by rw[zC,<-dd.o];exact f
   have cl:i < x.rots.length:=by rw[<-dd.o];exact f
   obtain ⟨g,cs,ha,fi,cf,aw,fw,cu⟩:=ab.o.2 i g6
   simp only at ha
   subst ha
   rw[qj] at cu
   simp only[yy] at cu
   have cp:=Ma cu aw
   have hz:=aa.o
   have eu:wr.cell? (aV g (i*23+22))=some (.slice (A2 L i).a (A2 L i).n (A2 L i).c):=(ag.o.cells g rfl _ (fun j hj=>by omega)).trans (fw 22 _ cp)
   have fv:wr.heap[w.heap.size]?=some (.cells #[.string x.name,iV x.season.op,iV x.season.n,iV x.season.u,.string x.season.rn,iV x.season.ri,.slice a0 x.season.args.length p0,iV x.cap.op,iV x.cap.n,iV x.cap.u,.string x.cap.rn,iV x.cap.ri,.slice a1 x.cap.args.length p1,iV x.start.op,iV x.start.n,iV x.start.u,.string x.start.rn,iV x.start.ri,.slice a2 x.start.args.length p2,.slice Z a7 a6,.slice F H G,.slice m l y,.slice T nfarms S,.slice (some (aV g 0)) nrots Y,.slice J nrights I,.slice R nduties P] 35 (0,0)):=(ag.o.grown.block _ (by have:=HP.o.size;omega) (fun e=>by rw[Fh cl] at e;cases e;omega)).trans HQ.o
   have fa:∀V:World,Below wr.heap.size wr V->V.frozen? (aV g (i*23+22))=false:=fun V hV=>(Ty.same (ag.o.ty g rfl _ cf) (hV.block g (yv cf.lt ag.o.grown.size))).frozen
   have d9:=T1 cu
   have em:∀b,N b->wr.heap[b]?=w.heap[b]?:=fun b hb=>(ag.o.grown.block b (bn.o _ HP.o b hb) (fun e=>by rw[Fh cl] at e;cases e;have:=HN.o _ hb;omega)).trans (bu.o _ HP.o b hb)
   have fj:∀b,N b->b < wr.drew.heap.size:=fun b hb=>yv (bn.o _ HP.o b hb) ag.o.grown.size
   have db:=yb (PG (w:=wr.drew) (d9.same (fun _ h=>h) em (fun _ _ h=>h)) fj SV (b0.o.turns _ (yM cl)))
   have b9:Hid (wr.drew.heap[w.heap.size]?=some (.cells #[.string x.name,iV x.season.op,iV x.season.n,iV x.season.u,.string x.season.rn,iV x.season.ri,.slice a0 x.season.args.length p0,iV x.cap.op,iV x.cap.n,iV x.cap.u,.string x.cap.rn,iV x.cap.ri,.slice a1 x.cap.args.length p1,iV x.start.op,iV x.start.n,iV x.start.u,.string x.start.rn,iV x.start.ri,.slice a2 x.start.args.length p2,.slice Z a7 a6,.slice F H G,.slice m l y,.slice T nfarms S,.slice (some (aV g 0)) nrots Y,.slice J nrights I,.slice R nduties P] 35 (0,0))∧wr.drew.cell? (aV g (i*23+22))=some (.slice (A2 L i).a (A2 L i).n (A2 L i).c)):=yb ⟨fv,eu⟩
   have gw:=yb fa
   have gq:Hid (g < U.heap.size):=yb cf.lt
   have ft:Hid (g < wr.heap.size∧w.heap.size < wr.heap.size):=yb ⟨yv cf.lt ag.o.grown.size,by have:=HP.o.size;have:=ag.o.grown.size;omega⟩
   have e8:=yb cn
   have et:=yb cl
   have ga:(i:Int) < (nrots:Int):=by omega
   clear fi cf aw fw cu cp fv fa d9 em fj cn hz eu
   go_upto_region 6 with fail
   refine wp_region_noPanic ?_
   refine DP (by kernel_rfl) (fun W=>W.heap[w.heap.size]?=some (.cells #[.string x.name,iV x.season.op,iV x.season.n,iV x.season.u,.string x.season.rn,iV x.season.ri,.slice a0 x.season.args.length p0,iV x.cap.op,iV x.cap.n,iV x.cap.u,.string x.cap.rn,iV x.cap.ri,.slice a1 x.cap.args.length p1,iV x.start.op,iV x.start.n,iV x.start.u,.string x.start.rn,iV x.start.ri,.slice a2 x.start.args.length p2,.slice Z a7 a6,.slice F H G,.slice m l y,.slice T nfarms S,.slice (some (aV g 0)) nrots Y,.slice J nrights I,.slice R nduties P] 35 (0,0))∧W.cell? (aV g (i*23+22))=some (.slice (A2 L i).a (A2 L i).n (A2 L i).c)) 12 ?_
   refine Ai (i:=0) (v:=pV w.heap.size 23) rfl (by kernel_rfl) (by kernel_rfl) (by kernel_rfl) (fun _ _ _ h=>h) (by kernel_rfl) (Or.inl ⟨by rfl,?_⟩) (fun _=>b9.o) ?_
   ·intro w _;go_simp
   refine Bb (i:=1) (v:=.slice (some (aV g 0)) nrots Y) rfl (by kernel_rfl) (by kernel_rfl) (by kernel_rfl) (fun _ _ _ h=>h) (by kernel_rfl) (Or.inl ⟨by rfl,?_⟩) b9.o ?_
   ·rintro W ⟨hW,f6⟩
    have hc:W.cell? (aV w.heap.size 23)=some (.slice (some (aV g 0)) nrots Y):=by simp only[World.cell?,hW];rfl
    clear hW
    go_simp
   refine Ai (i:=2) (v:=iV (i:Int)) rfl (by kernel_rfl) (by kernel_rfl) (by kernel_rfl) (fun _ _ _ h=>h) (by kernel_rfl) (Or.inl ⟨by rfl,?_⟩) (fun _=>b9.o) ?_
   ·intro w _;go_simp
   refine Ai (i:=3) (v:=pV w.heap.size 23) rfl (by kernel_rfl) (by kernel_rfl) (by kernel_rfl) (fun _ _ _ h=>h) (by kernel_rfl) (Or.inl ⟨by rfl,?_⟩) (fun _=>b9.o) ?_
   ·intro w _;go_simp
   refine Bb (i:=4) (v:=.slice (some (aV g 0)) nrots Y) rfl (by kernel_rfl) (by kernel_rfl) (by kernel_rfl) (fun _ _ _ h=>h) (by kernel_rfl) (Or.inl ⟨by rfl,?_⟩) b9.o ?_
   ·rintro W ⟨hW,f6⟩
    have hc:W.cell? (aV w.heap.size 23)=some (.slice (some (aV g 0)) nrots Y):=by simp only[World.cell?,hW];rfl
    clear hW
    go_simp
   refine Ai (i:=5) (v:=iV (i:Int)) rfl (by kernel_rfl) (by kernel_rfl) (by kernel_rfl) (fun _ _ _ h=>h) (by kernel_rfl) (Or.inl ⟨by rfl,?_⟩) (fun _=>b9.o) ?_
   ·intro w _;go_simp
   refine Ai (i:=6) (v:=pV g (i*23)) rfl (by kernel_rfl) (by kernel_rfl) (by kernel_rfl) (fun _ _ _ h=>h) (by kernel_rfl) (Or.inl ⟨by rfl,?_⟩) (fun _=>b9.o) ?_
   ·intro w _;go_simp
   refine Ai (i:=7) (v:=pV g (i*23+22)) rfl (by kernel_rfl) (by kernel_rfl) (by kernel_rfl) (fun _ _ _ h=>h) (by kernel_rfl) (Or.inl ⟨by rfl,?_⟩) (fun _=>b9.o) ?_
   ·intro w _;go_simp
   refine Bb (i:=8) (v:=.slice (A2 L i).a (A2 L i).n (A2 L i).c) rfl (by kernel_rfl) (by kernel_rfl) (by kernel_rfl) (fun _ _ _ h=>h) (by kernel_rfl) (Or.inl ⟨by rfl,?_⟩) b9.o ?_
   ·rintro W ⟨hW,f6⟩
    have hc:W.cell? (aV w.heap.size 23)=some (.slice (some (aV g 0)) nrots Y):=by simp only[World.cell?,hW];rfl
    clear hW
    go_simp
   refine Al (i:=9) (by kernel_rfl) rfl (fun K hK=>?_)
   go_simp
   refine db.o.mono ?_
   rintro e V ⟨⟨ta,tn,tc⟩,rfl,e7,dh,ch⟩
   rw[show Au.v ⟨ta,tn,tc⟩=Value.slice ta tn tc from rfl]
   simp only at e7 ch
   have gk:Hid (GI wr.heap.size V 158 8 (Ft N w) ⟨ta,tn,tc⟩ (x.rots[i]'et.o).turns):=yb (GI.of e7 (yf _) ch)
   have fp:Hid (Below wr.heap.size wr V):=yb ((yg _ _).drew.trans dh)
   have df:Hid (V.heap[w.heap.size]?=some (.cells #[.string x.name,iV x.season.op,iV x.season.n,iV x.season.u,.string x.season.rn,iV x.season.ri,.slice a0 x.season.args.length p0,iV x.cap.op,iV x.cap.n,iV x.cap.u,.string x.cap.rn,iV x.cap.ri,.slice a1 x.cap.args.length p1,iV x.start.op,iV x.start.n,iV x.start.u,.string x.start.rn,iV x.start.ri,.slice a2 x.start.args.length p2,.slice Z a7 a6,.slice F H G,.slice m l y,.slice T nfarms S,.slice (some (aV g 0)) nrots Y,.slice J nrights I,.slice R nduties P] 35 (0,0))∧V.cell? (aV g (i*23+22))=some (.slice (A2 L i).a (A2 L i).n (A2 L i).c)):=yb ⟨(dh.block _ ft.o.2).trans b9.o.1,(dh.cell (p:=(aV g (i*23+22))) ft.o.1).trans b9.o.2⟩
   clear e7 dh ch
   refine hK.o _ _ (fun _=>df.o) ?_
   clear hK K
   refine Ai (i:=10) (v:=pV g (i*23)) rfl (by kernel_rfl) (by kernel_rfl) (by kernel_rfl) (fun _ _ _ h=>h) (by kernel_rfl) (Or.inl ⟨by rfl,?_⟩) (fun _=>df.o) ?_
   ·intro w _;go_simp
   refine Ai (i:=11) (v:=pV g (i*23+22)) rfl (by kernel_rfl) (by kernel_rfl) (by kernel_rfl) (fun _ _ _ h=>h) (by kernel_rfl) (Or.inl ⟨by rfl,?_⟩) (fun _=>df.o) ?_
   ·intro w _;go_simp
   refine Al (i:=12) (by kernel_rfl) rfl (fun K hK=>?_)
   have hc:=df.o.2
   have hf:=gw.o V fp.o
   go_simp
   have ea:Hid (VC U (some (aV g 0)) N w x.rots (hs++[⟨ta,tn,tc⟩]) (V.setCell (aV g (i*23+22)) (.slice ta tn tc))):=yb (by
    obtain rfl:=e8.o
    exact ag.o.next et.o rfl gq.o fp.o hc gk.o rfl)
   clear hc hf
   generalize V.setCell (aV g (i*23+22)) (.slice ta tn tc)=V2 at*
   refine hK.o _ _ (by intro h;cases h) ?_
   clear hK K
   refine DO (by kernel_rfl) ?_
   refine NoPanic.normal ?_
   go_wp2
   exact ⟨⟨hs++[⟨ta,tn,tc⟩],by simp;have:=e8.o;omega,by simp;have:=e8.o;omega,ea⟩,by simp[intOf];omega⟩
  ·have e4:i=nrots:=by omega
   have ga:decide ((i:Int) < (nrots:Int))=false:=by simp;omega
   have hz:=aa.o
   have fh:=HP.o.size
   have bd:∀b,b < W1.heap.size->some b≠Mk x.rots a8:=fun b hb e=>by
    have h0:=Ml e
    obtain ⟨g,cs,ha,fi,_⟩:=ab.o.2 0 (by rw[zC];exact h0)
    simp only at ha
    rw[ha,Fh h0] at e
    cases e;omega
   have d0:∀b t,Ty U b t->t≠109->some b≠Mk x.rots a8:=fun b t ht cm e=>by
    have h0:=Ml e
    obtain ⟨g,cs,ha,_,cf,_⟩:=ab.o.2 0 (by rw[zC];exact h0)
    simp only at ha
    rw[ha,Fh h0] at e
    cases e
    exact cm (ht.inj cf)
   have ec:∀b,N b->wr.heap[b]?=w.heap[b]?:=fun b hb=>(ag.o.grown.block b (bn.o _ HP.o b hb) (bd b (by have:=HN.o b hb;omega))).trans (bu.o _ HP.o b hb)
   have dq:wr.heap[w.heap.size]?=some (.cells #[.string x.name,iV x.season.op,iV x.season.n,iV x.season.u,.string x.season.rn,iV x.season.ri,.slice a0 x.season.args.length p0,iV x.cap.op,iV x.cap.n,iV x.cap.u,.string x.cap.rn,iV x.cap.ri,.slice a1 x.cap.args.length p1,iV x.start.op,iV x.start.n,iV x.start.u,.string x.start.rn,iV x.start.ri,.slice a2 x.start.args.length p2,.slice Z a7 a6,.slice F H G,.slice m l y,.slice T nfarms S,.slice a8 nrots Y,.slice J nrights I,.slice R nduties P] 35 (0,0)):=(ag.o.grown.block _ (by omega) (bd _ (by omega))).trans HQ.o
   have ek:wr.heap[w.heap.size+1]?=some (.cells #[.string ⟨#[]⟩,iV 0,iV 0,iV 0,.string ⟨#[]⟩,iV 0,.slice none 0 0,iV 0,iV 0,iV 0,.string ⟨#[]⟩,iV 0,.slice none 0 0,iV 0,iV 0,iV 0,.string ⟨#[]⟩,iV 0,.slice none 0 0,.slice none 0 0,.slice none 0 0,.slice none 0 0,.slice none 0 0,.slice none 0 0,.slice none 0 0,.slice none 0 0] 35 (0,0)):=(ag.o.grown.block _ (by omega) (bd _ (by omega))).trans ((HP.o.block _ (by omega) (fun e=>by simp at e)).trans gm.o)
   have ao:∀b t,Ty U b t->t≠109->wr.heap[b]?=U.heap[b]?:=fun b t ht cm=>ag.o.grown.block b ht.lt (d0 b t ht cm)
   have dg:∀i (h:i < hs.length),A2 (⟨w.heap.size,⟨Z,a7,a6⟩,⟨F,H,G⟩,⟨m,l,y⟩,⟨T,nfarms,S⟩,⟨a8,nrots,Y⟩,⟨J,nrights,I⟩,⟨R,nduties,P⟩,hs⟩:Bt) i=hs[i]:=fun i h=>by unfold A2;simp[h]
   have dy:C8 (fun g=>w.heap.size<=g∧g≠w.heap.size+1) (EV N wr) (RV wr) wr (⟨w.heap.size,⟨Z,a7,a6⟩,⟨F,H,G⟩,⟨m,l,y⟩,⟨T,nfarms,S⟩,⟨a8,nrots,Y⟩,⟨J,nrights,I⟩,⟨R,nduties,P⟩,hs⟩:Bt) x:=by
    refine PM (B:=W1.heap.size) ec (fun g hg=>by omega) b0.o dq HV.o.name gg.o gp.o go.o (E.o.upT fun b _ ht=>ao b _ ht (by decide)) (C.o.upT fun b _ ht=>ao b _ ht (by decide)) (A.o.upT fun b _ ht=>ao b _ ht (by decide)) (X.o.upT fun b _ ht=>ao b _ ht (by decide)) ?_ (ac.o.upT fun b _ ht=>ao b _ ht (by decide)) (ae.o.upT fun b _ ht=>ao b _ ht (by decide))
    refine SX (L:=L) (L':=(⟨w.heap.size,⟨Z,a7,a6⟩,⟨F,H,G⟩,⟨m,l,y⟩,⟨T,nfarms,S⟩,⟨a8,nrots,Y⟩,⟨J,nrights,I⟩,⟨R,nduties,P⟩,hs⟩:Bt)) ec ab.o (fun g hg=>by omega) b0.o.rots b0.o.turns (fun g hg ht=>ag.o.ty g hg _ ht) (fun g hg i q hq=>ag.o.cells g hg _ (fun j _=>by omega)) (fun k hk g hg=>?_) (fun k hk=>?_)
    ·have co:k < hs.length:=by rw[<-cn,e4,dd.o];exact hk
     rw[dg k co]
     exact (ag.o.done k co hk).2 g hg
    ·have co:k < hs.length:=by rw[<-cn,e4,dd.o];exact hk
     rw[dg k co]
     exact GI.of (ag.o.done k co hk).1.1 fh (ag.o.done k co hk).1.2
   have ei:Below w.heap.size w wr:=⟨ag.o.grown.os.trans (HP.o.os.trans cr.o.os),ag.o.grown.tape.trans (HP.o.tape.trans cr.o.tape),ag.o.grown.output.trans (HP.o.output.trans cr.o.output),by have:=ag.o.grown.size;omega,fun b hb=>(ag.o.grown.block b (by omega) (bd b (by omega))).trans ((HP.o.block b (by omega) (fun e=>by cases e;omega)).trans (cr.o.block b hb))⟩
   have fl:∀b,N b->b < w.heap.size∧b < wr.heap.size:=fun b hb=>⟨HN.o b hb,by have:=HN.o b hb;have:=ei.size;omega⟩
   generalize g4:(⟨w.heap.size,⟨Z,a7,a6⟩,⟨F,H,G⟩,⟨m,l,y⟩,⟨T,nfarms,S⟩,⟨a8,nrots,Y⟩,⟨J,nrights,I⟩,⟨R,nduties,P⟩,hs⟩:Bt)=Lc at dy dg
   have eq:Lc.s=w.heap.size:=by rw[<-g4]
   have eb:=yb dy;have d1:=yb ei;have de:=yb fl;have gy:=yb dq;have ej:=yb ek;have bm:=yb eq
   have g8:=yb b0.o.exprs
   clear dy ei fl dq ek eq g4 dg ao ec bd d0 hz fh e4 cn
   iterate 2
    go_wp2
    refine A9 (A4 ?_)
   have gs:∀(fn:Fn) (first cap:Array Value) (w:World),(Instr.makeFunc fn first cap).run Tryz.prog w=.ok (.func fn first cap) w:=fun _ _ _ _=>rfl
   go_wp2
   refine A9 (A9 (A4 ?_))
   go_wp2_with (first|(go_at_call 72;refine (ES _ _).mono ?_;rintro e w2 ⟨rfl,rfl⟩))
   have eg:Below wr.heap.size wr ((wr.alloc (.cells #[.func (.func 90) #[] #[pV wr.heap.size 0]] 183)).alloc (.cells #[pV w.heap.size 0] 85)):=((yg _ _).alloc (yf _) _).alloc (by simp) _
   have fk:((wr.alloc (.cells #[.func (.func 90) #[] #[pV wr.heap.size 0]] 183)).alloc (.cells #[pV w.heap.size 0] 85)).cell? (aV wr.heap.size 0)=some (.func (.func 90) #[] #[pV wr.heap.size 0]):=by
    refine qg _ ?_
    have:=World.alloc_heap_new wr (.cells #[.func (.func 90) #[] #[pV wr.heap.size 0]] 183)
    simp only[World.cell?,this];simp
   have ex:((wr.alloc (.cells #[.func (.func 90) #[] #[pV wr.heap.size 0]] 183)).alloc (.cells #[pV w.heap.size 0] 85)).cell? (aV (wr.heap.size+1) 0)=some (pV w.heap.size 0):=by
    have:=World.alloc_heap_new (wr.alloc (.cells #[.func (.func 90) #[] #[pV wr.heap.size 0]] 183)) (.cells #[pV w.heap.size 0] 85)
    rw[z8] at this
    simp only[World.cell?,this];simp
   have ce:((wr.alloc (.cells #[.func (.func 90) #[] #[pV wr.heap.size 0]] 183)).alloc (.cells #[pV w.heap.size 0] 85)).heap.size=wr.heap.size+2:=by simp
   generalize (wr.alloc (.cells #[.func (.func 90) #[] #[pV wr.heap.size 0]] 183)).alloc (.cells #[pV w.heap.size 0] 85)=W4 at*
   have d3:=yb eg;have gd:=yb fk;have gi:=yb ex;have d4:=yb ce
   have dx:=eb.o.up (fun b hb=>(de.o b hb).2) eg
   have gc:=d1.o.size
   have d7:w.heap.size+2<=wr.heap.size:=by
    have h1:=(yd.1 ej.o).1
    omega
   have hA:=dx.all2 (by rw[bm.o];exact ⟨yf _,by omega⟩)
   have dw:=eb.o.all2 (by rw[bm.o];exact ⟨yf _,by omega⟩)
   have di:O5 N W4 Lc x:=⟨fun j b o lt hp=>(Hp hA hp).2.1,fun b hb=>⟨by have:=(de.o b hb).2;omega,fun j o lt hp=>by have h1:=(Hp hA hp).1.1;have h2:=(de.o b hb).1;omega⟩,fun j b o lt hp hj=>(Hp hA hp).2.2 hj⟩
   have dj:∀j b o lt,G0 Lc j b o lt->w.heap.size<=b∧b < wr.heap.size:=fun j b o lt hp=>⟨(Hp dw hp).1.1,(Hp dw hp).2.1.lt⟩
   have f5:=yb dx;have HA:=yb hA;have b7:=yb di;have cj:=yb dj;have du:=yb d7
   clear eg fk ex ce dx hA dw di dj gc d7 gs
   refine D7 ?_
   refine CC (n:=10) Tryz.func67 rfl (fun _ _=>rfl) (Kv 9 (by omega) (wr.heap.size+1) Lc eb.o.ok) (fun a ha=>by
     obtain ⟨i,hi,rfl⟩:=zh.1 ha
     obtain ⟨b,o,h1,_⟩:=HA.o.get i hi (by rw[<-HA.o.length];exact hi)
     rw[h1];rfl)
    (O6 W4 Lc x) (fun _ _ _=>False) (fun _ _ _=>False)
    (fun k a O W=>O6 W4 Lc x k O W∧∃(b o:Nat) (lt:Int),G0 Lc k b o lt∧a={tmps:=#[.agg #[.string x.name,iV x.season.op,iV x.season.n,iV x.season.u,.string x.season.rn,iV x.season.ri,.slice a0 x.season.args.length p0,iV x.cap.op,iV x.cap.n,iV x.cap.u,.string x.cap.rn,iV x.cap.ri,.slice a1 x.cap.args.length p1,iV x.start.op,iV x.start.n,iV x.start.u,.string x.start.rn,iV x.start.ri,.slice a2 x.start.args.length p2,.slice L.lets.a L.lets.n L.lets.c,.slice L.crops.a L.crops.n L.crops.c,.slice L.reaches.a L.reaches.n L.reaches.c,.slice L.farms.a L.farms.n L.farms.c,.slice L.rots.a L.rots.n L.rots.c,.slice L.rights.a L.rights.n L.rights.c,.slice L.duties.a L.duties.n L.duties.c],pV w.heap.size 0,pV (w.heap.size+1) 0,u3,pV wr.heap.size 0,pV b o,pV w.heap.size 19,.slice L.lets.a L.lets.n L.lets.c,.slice Z a7 a6,pV w.heap.size 20,.slice L.crops.a L.crops.n L.crops.c,.slice F H G,pV w.heap.size 21,.slice L.reaches.a L.reaches.n L.reaches.c,.slice m l y,pV w.heap.size 22,.slice L.farms.a L.farms.n L.farms.c,.slice T nfarms S,pV w.heap.size 19,pV w.heap.size 20,pV w.heap.size 21,pV w.heap.size 22,pV w.heap.size 23,.slice L.rots.a L.rots.n L.rots.c,.slice a8 nrots Y,pV w.heap.size 24,.slice L.rights.a L.rights.n L.rights.c,.slice J nrights I,pV w.heap.size 25,.slice L.duties.a L.duties.n L.duties.c,.slice R nduties P,pV w.heap.size 23,pV w.heap.size 24,pV w.heap.size 25,pV w.heap.size 23,.slice a8 nrots Y,iV (nrots:Int),iV (i:Int),.bool false,u39,u40,u41,u42,u43,u44,u45,u46,u47,u48,u49,u50,u51,u52,.func (.func 90) #[] #[pV wr.heap.size 0],.func (.func 92) #[] #[pV (wr.heap.size+1) 0],pV b o,iV lt,undef,undef,undef,undef],defers:=[]})
    O6.stays (fun _ _ _ _ _ _ h=>h.elim) (fun _ _ _ _ _ _ h=>h.elim) ?_ ?_ (fun _ _ _ h=>h.elim) (fun _ h=>by cases h) (O6.start W4 Lc x) ?_ ?_ ?_ (fun _ _ _ _ _ _ h=>h.elim) (fun _ _ _ _ _ _ h=>h.elim)
   ·exact fun a k O W O' W' h hz ho ht hu hk hO=>⟨O6.stays k O W O' W' h.1 hz ho ht hu hk hO,h.2⟩
   ·intro k O W hJ
    refine f5.o.heads (fun b q hq=>by obtain ⟨t,ty,aw⟩:=hq;exact Hq b7.o hJ ty (by rw[aw];decide)) ?_
    rw[bm.o,Ab (hJ.old _ (by have:=d4.o;omega) (fun j o lt _ hp=>by have:=(cj.o j _ o lt hp).2;omega))]
    exact gi.o
   ·intro k hk O W lo hJ hO hl _
    obtain ⟨b,o,lt,hp⟩:=SZ HA.o hk
    have he:(BJ Lc)[k]=#[pV b o,iV lt]:=by
     unfold G0 at hp
     rw[yk hk] at hp
     exact yi hp
    rw[he]
    have dp:=yb hJ;have ed:=yb hp
    clear hJ hO hl hp he
    gi_wp2
    first
    |exact ⟨AL.refl _ _,dp.o,b,o,lt,ed.o,rfl⟩
    |(rename_i hK;exact hK _ _ ⟨AL.refl _ _,dp.o,b,o,lt,ed.o,rfl⟩)
    |(rename_i hK _;exact hK _ _ ⟨AL.refl _ _,dp.o,b,o,lt,ed.o,rfl⟩)
   ·rintro k hk O W lo a1 hl f8 en ⟨hJ,b,o,lt,hp,rfl⟩
    have dn:k < (Ax x).length:=by rw[<-HA.o.length];exact hk
    obtain ⟨M,hM,cs,hr,hv⟩:=hJ.read b7.o hp dn
    obtain ⟨t,ht,_⟩:=b7.o.epos k b o lt hp
    have hf:=cj.o k b o lt hp
    have ce:=d4.o
    have bx:W.cell? (aV wr.heap.size 0)=some (.func (.func 90) #[] #[pV wr.heap.size 0]):=(Ab (hJ.old _ (by omega) (fun j o lt _ hp=>by have:=(cj.o j _ o lt hp).2;omega))).trans gd.o
    have ff:=SW M wr.heap.size (Ax x)[k].1 b o t cs W hv hr (hJ.ty b t ht) (g8.o _ (yM dn)) (fun c hc=>by
     rcases hM c hc with h1|h1
     ·have h2:=(de.o c h1);have h3:=hJ.size;omega
     ·omega) (by omega) bx
    have g9:=yb ff
    have ea:=yb (fun w3=>O6.next (w':=w3) b7.o hJ hp dn en)
    clear hM hr hv ht hf ce ff hJ hp en hl f8
    gi_wp2_with fail
    refine ⟨trivial,zm (CallsIn.inRound lo (z6.2 g9.o)) ?_⟩
    rintro e w3 ⟨rfl,aw⟩
    have f1:=yb (ea.o w3 aw)
    clear aw
    gi_wp2_with fail
    first
    |exact ⟨f1.o.2,f1.o.1⟩
    |fail
   ·rintro - D O W hD fu hJ eo
    simp only[Exit.inBlock,Exit.then]
    have ce:=d4.o
    have d7:=du.o
    have ge:=hJ.size
    have fs:C8 (fun g=>w.heap.size<=g∧g≠w.heap.size+1) (fun _ _ _ _=>True) (RV W) W Lc x:=f5.o.imp (fun b t _ ht=>hJ.ty b t ht) (fun b q _ hq=>by obtain ⟨t,ty,aw⟩:=hq;exact Hq b7.o hJ ty (by rw[aw];decide)) (fun _ _ _ _ _ _ _=>trivial) (fun to r b q _ hq hr=>by
     obtain ⟨t,ty,h1,h2⟩:=hq
     exact ⟨hr.1,(Hq b7.o hJ ty (by rw[h1];decide)).trans hr.2.1,(Hq b7.o hJ ty (by rw[h2];decide)).trans hr.2.2⟩)
    have dv:=fs.told (Ud (B:=fun b=>w.heap.size+2<=b∧b≠D) HA.o b7.o hJ (fun b hb hO=>⟨by omega,fun e=>hO (e▸fu)⟩))
    have fy:C8 (fun g=>w.heap.size<=g∧g≠w.heap.size+1) (EV (fun g=>w.heap.size<=g∧g≠w.heap.size+1) W) (RV W) W Lc x:=dv.imp (fun _ _ _ h=>h) (fun _ _ _ _=>rfl) (fun lt e b o _ _ hE=>by obtain ⟨c,h1,h2⟩:=hE;exact ⟨c,h1,h2.exV (fun b hb _=>by have h3:=hb.1;exact ⟨by omega,by omega⟩)⟩) (fun _ _ _ _ _ _ h=>h)
    obtain ⟨cs,aw,e6,g5⟩:=fy.srcV
    rw[bm.o] at e6
    have dk:=MT g5
    have cw:∀j o lt,¬ G0 Lc j (w.heap.size+1) o lt:=fun j o lt hp=>(Hp HA.o hp).1.2 rfl
    have ep:W.heap[w.heap.size+1]?=some (.cells #[.string ⟨#[]⟩,iV 0,iV 0,iV 0,.string ⟨#[]⟩,iV 0,.slice none 0 0,iV 0,iV 0,iV 0,.string ⟨#[]⟩,iV 0,.slice none 0 0,iV 0,iV 0,iV 0,.string ⟨#[]⟩,iV 0,.slice none 0 0,.slice none 0 0,.slice none 0 0,.slice none 0 0,.slice none 0 0,.slice none 0 0,.slice none 0 0,.slice none 0 0] 35 (0,0)):=(hJ.old _ (by omega) (fun j o lt _=>cw j o lt)).trans ((d3.o.block _ (by omega)).trans ej.o)
    have e3:Hid ((Tryz.prog.info? 35).map (·.size)=some cs.length):=yb (by rw[aw];kernel_rfl)
    have fg:Hid ((Tryz.prog.info? 35).map (·.size)=some cs.toArray.size):=yb (by rw[yq];exact e3.o)
    have db:=yb aw;have f4:=yb e6;have dl:=yb dk;have fz:=yb ep;have g7:=yb dv;have ew:=yb eo;have HD:=yb hD;have d8:=yb hJ
    clear fs dv fy aw e6 g5 dk cw ep eo hD hJ fu ce d7 ge
    refine A9 (A4 ?_)
    go_wp2_with (first|(refine yj rfl 35 _ rfl w.heap.size 0 rfl cs _ f4.o qV rfl e3.o ?_)|(refine zb rfl 35 _ _ rfl (w.heap.size+1) cs.toArray rfl rfl 35 _ fz.o fg.o (by simp[db.o]) (yB dl.o) ?_))
    refine A4 ?_
    go_wp2
    have cm:D≠w.heap.size+1:=by have:=HD.o;have:=d4.o;have:=du.o;omega
    have gh:(W.setRow (w.heap.size+1) cs.toArray).heap[D]?=some (.deferred (some [])):=by
     simp only[World.setRow,yN,yt (xi cm)]
     exact ew.o
    have ci:∀ob b,b≠w.heap.size+1->b≠D->((W.setRow (w.heap.size+1) cs.toArray).putObj D ob).heap[b]?=W.heap[b]?:=fun ob b h1 h2=>by
     rw[World.putObj_heap_other h2]
     simp only[World.setRow,yN,yt (xi h1)]
    have gr:∀ob,((W.setRow (w.heap.size+1) cs.toArray).putObj D ob).heap[w.heap.size+1]?=some (.cells cs.toArray 35 (0,0)):=fun ob=>by
     rw[World.putObj_heap_other (xi cm)]
     simp[World.setRow,yN,fz.o]
    have gl:∀ob,((W.setRow (w.heap.size+1) cs.toArray).putObj D ob).rangeAt (w.heap.size+1) 0 cs:=fun ob=>by
     have:=zo (gr ob) 0 cs.length
     simpa using this
    have e9:∀ob,Mj w x (.returned (.agg cs.toArray)) ((W.setRow (w.heap.size+1) cs.toArray).putObj D ob):=fun ob=>by
     have gx:=HD.o
     have ce:=d4.o
     have d7:=du.o
     have dc:∀b t,b≠w.heap.size+1->Ty W b t->b≠D:=fun b t _ ht e=>by
      obtain ⟨c,hc⟩:=ht
      rw[e,ew.o] at hc
      cases hc
     refine ⟨Lc,cs,rfl,db.o,dl.o,⟨d8.o.os.trans (d3.o.os.trans d1.o.os),d8.o.tape.trans (d3.o.tape.trans d1.o.tape),d8.o.output.trans (d3.o.output.trans d1.o.output),?_,fun b hb=>?_⟩,bm.o,?_,?_⟩
     ·have h1:=d8.o.size
      have h2:((W.setRow (w.heap.size+1) cs.toArray).putObj D ob).heap.size=W.heap.size:=by simp[World.setRow]
      omega
     ·rw[ci ob b (by omega) (by omega),d8.o.old b (by omega) (fun j o lt _ hp=>by have:=(cj.o j b o lt hp).1;omega),d3.o.block b (by omega)]
      exact d1.o.block b hb
     ·rw[bm.o]
      exact A0 f4.o (ci ob _ (by omega) (by omega))
     ·refine g7.o.imp (fun b t hq ht=>?_) (fun b q hq hp=>?_) (fun lt e b o hq hp hE=>?_) (fun to r b o hq hp hr=>?_)
      ·have h1:b≠w.heap.size+1:=by rcases hq with hq|hq;exact hq.2;have:=bm.o;omega
       exact ht.same (ci ob b h1 (dc b t h1 ht))
      ·have h1:b≠w.heap.size+1:=by rcases hq with hq|hq;exact hq.2;have:=bm.o;omega
       obtain ⟨t,ty,_⟩:=hp
       exact Ab (ci ob b h1 (dc b t h1 ty))
      ·have h1:b≠w.heap.size+1:=by rcases hq with hq|hq;exact hq.2;have:=bm.o;omega
       obtain ⟨t,ty,_⟩:=hp
       obtain ⟨c,c1,c2⟩:=hE
       exact ⟨c,A0 c1 (ci ob b h1 (dc b t h1 ty)),c2.same (fun b hb _=>hb.1) (fun b hb _=>ci ob b (by have:=hb.1;omega) hb.2)⟩
      ·have h1:b≠w.heap.size+1:=by rcases hq with hq|hq;exact hq.2;have:=bm.o;omega
       obtain ⟨t,ty,_⟩:=hp
       have h2:=ci ob b h1 (dc b t h1 ty)
       exact ⟨hr.1,(Ab h2).trans hr.2.1,(Ab h2).trans hr.2.2⟩
    exact ⟨by simp,.inl ⟨_,_,rfl,run_takeDeferred gh,⟨_,MV rfl rfl (run_loadVar_mid _ (w.heap.size+1) 0 35 cs _ (gl _) qV rfl e3.o),e9 _⟩⟩⟩
end Go.Proofs.YtjofgpfocadomaaGreatDoor
