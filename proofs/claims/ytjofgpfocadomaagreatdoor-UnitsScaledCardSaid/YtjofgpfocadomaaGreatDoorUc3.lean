/- Parts of the proof, in short words: Of Og Oh Nh Ni Qa Pa Pb Pc Pd Pg Ph Pi Pj Pk Pf -/
import Derived.Test.YtjofgpfocadomaaGreatDoorUc0
import Derived.Test.YtjofgpfocadomaaGreatDoorUc1
import Derived.Deep.Cut
import Derived.Deep.RegionHeld2
import Derived.StillTailTactics
import Derived.Test.YtjofgpfocadomaaGreatDoorUc2
import Derived.BigFrameIn
import Derived.Lib.SliceRun
import Derived.Deep.RegionHeld3
set_option maxRecDepth 100000
set_option maxHeartbeats 32000000
set_option linter.unusedSimpArgs false
namespace Go.Proofs.YtjofgpfocadomaaGreatDoor
open Go.RowKit
structure VZ (n l By Bi B0:Nat) (O:Nat->Prop) (X:List Us) (w0:World) (C:Addr->Prop) (J:Nat->(Nat->Prop)->World->Prop) (Jx:(Nat->Prop)->World->Prop) (Jp:List PanicEntry->(Nat->Prop)->World->Prop):Prop where
 stays:Cd J
 hd:∀k O W,J k O W->∀p,C p->W.cell? p=w0.cell? p
 hdx:∀O W,Jx O W->∀p,C p->W.cell? p=w0.cell? p
 round:∀k (hk:k < X.length) W,Jo J O B0 l By Bi k W->YieldAt Fence.wide (n - 1) Tryz.prog l X[k].v W (Kv J Jx Jp O (k+1) W)
theorem Q3(n:Nat)(hn:1<=n)(l By Bi B0:Nat)(lt:Int)(hlt:0<=lt∧lt<=1000000)(O:NP)(X:List Us)(w0:World)(C:Addr->Prop)(J:Nat->NP->World->Prop)(Jx:NP->World->Prop)(Jp:List PanicEntry->NP->World->Prop)
 (hc:VZ n l By Bi B0 O X w0 C J Jx Jp):∀(e:Ex) (b o:Nat) (pre:List Us) (W:World),Jo J O B0 l By Bi pre.length W->Sg w0 C e b o->(∃post,X=pre++((C9 w0 lt e b o).1++post))->
   ((C9 w0 lt e b o).2=false->∀W',J (pre.length+(C9 w0 lt e b o).1.length) O W'->Jp (ED 170) O W')->
   Calls Tryz.prog 71 #[.pointer (some ⟨b,o,none⟩),.int .i64 lt,.pointer (some ⟨By,0,none⟩),.pointer (some ⟨Bi,0,none⟩)] W (Oh J Jx Jp O (pre.length+(C9 w0 lt e b o).1.length) (C9 w0 lt e b o).2 W):=by
 refine Jl fun op nn u rn ri args ih=>?_
 intro b o pre W hi hR hX hbad
 rw[Sg] at hR
 obtain ⟨a,cap,⟨c0,C0⟩,⟨c5,C5⟩,hl,hrow⟩:=hR
 have HC:=yb hc
 have HI:=yb hi
 have HX:=yb hX
 have HBad:=yb hbad
 have IH:=yb ih
 have HRow:=yb hrow
 have HC5:=yb C5
 have w0c:=(hc.hd _ _ _ hi.j _ C0).trans c0
 have w5c:=(hc.hd _ _ _ hi.j _ C5).trans c5
 have y0:=hi.y.2
 have H5:=yb c5
 have a0:(W.alloc (.cells #[.pointer (some ⟨b,o+3,none⟩),.int .i64 0,.int .i64 0] 89)).cell? ⟨b,o,none⟩=some (.int .i64 op):=((yg W.heap.size W).alloc (yf _) _).cell (p:=⟨b,o,none⟩) (yP W _ w0c) |>.trans w0c
 have HE:Hid (C9 w0 lt (.mk op nn u rn ri args) b o=if O0 op args.length then (⟨b,o+3,M6 op lt,PS op lt,rn,ri⟩::(BB w0 lt args (some (.slice a args.length cap)) 0).1,(BB w0 lt args (some (.slice a args.length cap)) 0).2) else ([],false)):=yb (by rw[C9,c5])
 generalize hP:C9 w0 lt (.mk op nn u rn ri args) b o=P at*
 clear hP
 generalize hm:args.length=m at*
 have Hm:=yb hm
 clear hm hc hi hX hbad ih hrow C0 C5 c0 c5
 by_cases h1:1<=op
 rotate_left
 ·have HF:Hid (P=([],false)):=yb (by rw[HE.o];simp[O0,h1])
  go_enter Tryz.func71,Tryz.ntmps71
  go_wp2_with (first|(go_at_call 69;refine (Co _ _).mono ?_;rintro e w5 ⟨rfl,rfl⟩))
  exact ⟨rfl,.inr ⟨_,rfl,HBad.o (by rw[HF.o]) _ (by rw[HF.o];exact HI.o.j),AN.refl _ _⟩⟩
 by_cases h6:op<=6
 rotate_left
 ·have HF:Hid (P=([],false)):=yb (by rw[HE.o];simp[O0,h6])
  go_enter Tryz.func71,Tryz.ntmps71
  go_wp2_with (first|(go_at_call 69;refine (Co _ _).mono ?_;rintro e w5 ⟨rfl,rfl⟩))
  exact ⟨rfl,.inr ⟨_,rfl,HBad.o (by rw[HF.o]) _ (by rw[HF.o];exact HI.o.j),AN.refl _ _⟩⟩
 go_enter Tryz.func71,Tryz.ntmps71
 go_upto_if 30 with (first|(go_at_call 69;refine (Cw _ _).mono ?_;rintro e w5 ⟨rfl,rfl⟩))
 go_cut [31] from 22 (fun _ w'=>Hid (Below w5.heap.size w5 w'∧w'.heap[w5.heap.size]?=some (.cells #[.pointer (some ⟨b,o+3,none⟩),.int .i64 (M6 op lt),.int .i64 (PS op lt)] 89 (0,0))))
 case first=>
  go_wp2
  all_goals
   go_meet
   case rel=>exact yb ⟨(yg _ _).alloc (yf _) _,by rw[World.alloc_heap_new];simp_all[M6,PS]<;>omega⟩
 clear a0
 have HBc:=yb hcut.o.1
 have HUc:=yb hcut.o.2
 have b0:=(HBc.o.cell (p:=⟨b,o,none⟩) (yP w5 _ w0c)).trans w0c
 have b5:=(HBc.o.cell (p:=⟨b,o+5,none⟩) (yP w5 _ w5c)).trans w5c
 have HIc:=yb (HI.o.below HC.o.stays HBc.o)
 clear hcut w0c w5c
 go_upto_if 42 with fail
 go_cut [31] from 22 (fun _ w'=>Hid (w'=wc∧O0 op m=true))
 case first=>
  by_cases h3:3<=op
  ·by_cases h2:m=2
   ·have hb2:((m:Int)==2)=true:=by simp;omega
    have HOk:Hid (O0 op m=true):=yb (by simp[O0,h1,h6,h3,h2])
    clear h2
    go_wp2_with (first|(go_at_call 69;refine (Cw _ _).mono ?_;rintro e w6 ⟨rfl,rfl⟩))
    go_meet
    case rel=>exact yb ⟨rfl,HOk.o⟩
   ·have hb2:((m:Int)==2)=false:=by simp;omega
    have HF:Hid (P=([],false)):=yb (by rw[HE.o];simp[O0,h3,h2])
    clear h2
    go_wp2_with (first|(go_at_call 69;refine (Co _ _).mono ?_;rintro e w6 ⟨rfl,rfl⟩))
    exact ⟨rfl,.inr ⟨_,rfl,HBad.o (by rw[HF.o]) _ (by rw[HF.o];exact HIc.o.j),HI.o.sameBelow HBc.o⟩⟩
  ·by_cases h2:m=0
   ·have hb2:((m:Int)==0)=true:=by simp;omega
    have HOk:Hid (O0 op m=true):=yb (by simp[O0,h1,h6,h3,h2])
    clear h2
    go_wp2_with (first|(go_at_call 69;refine (Cw _ _).mono ?_;rintro e w6 ⟨rfl,rfl⟩))
    go_meet
    case rel=>exact yb ⟨rfl,HOk.o⟩
   ·have hb2:((m:Int)==0)=false:=by simp;omega
    have HF:Hid (P=([],false)):=yb (by rw[HE.o];simp[O0,h3,h2])
    clear h2
    go_wp2_with (first|(go_at_call 69;refine (Co _ _).mono ?_;rintro e w6 ⟨rfl,rfl⟩))
    exact ⟨rfl,.inr ⟨_,rfl,HBad.o (by rw[HF.o]) _ (by rw[HF.o];exact HIc.o.j),HI.o.sameBelow HBc.o⟩⟩
 obtain ⟨rfl,hok⟩:=hcut.o
 have HP:Hid (P=(⟨b,o+3,M6 op lt,PS op lt,rn,ri⟩::(BB w0 lt args (some (.slice a m cap)) 0).1,(BB w0 lt args (some (.slice a m cap)) 0).2)):=yb (by rw[HE.o,hok];rfl)
 have hk:pre.length < X.length:=by
  obtain ⟨post,hx⟩:=HX.o
  rw[hx,HP.o];simp
 have hxk:X[pre.length].v=#[.agg #[.pointer (some ⟨b,o+3,none⟩),.int .i64 (M6 op lt),.int .i64 (PS op lt)]]:=by
  obtain ⟨post,hx⟩:=HX.o
  have:X[pre.length]?=some ⟨b,o+3,M6 op lt,PS op lt,rn,ri⟩:=by rw[hx,HP.o];simp
  rw[yk hk] at this
  rw[yi this];rfl
 obtain ⟨yfn,ytmps,yassign,ybody,hy,hyR⟩:=HC.o.round pre.length hk _ HIc.o
 rw[hxk] at hy
 have HyR:=yb hyR
 have q0:wc.cell? ⟨w5.heap.size,0,none⟩=some (.pointer (some ⟨b,o+3,none⟩)):=by simp[World.cell?,HUc.o]
 have q1:wc.cell? ⟨w5.heap.size,1,none⟩=some (.int .i64 (M6 op lt)):=by simp[World.cell?,HUc.o]
 have q2:wc.cell? ⟨w5.heap.size,2,none⟩=some (.int .i64 (PS op lt)):=by simp[World.cell?,HUc.o]
 have q3:=HIc.o.y.2
 clear hk hxk hyR hcut hok
 go_upto_region 10 with fail
 refine (qm (n:=n)).1 ?_
 gi_wp2
 refine HyR.o.mono ?_
 rintro e W3 (⟨rfl,hj,hs⟩|⟨rfl,hx,hs⟩|⟨ch,rfl,hp,hs⟩)
 rotate_left
 ·have HX3:=yb hx
  have HS3:=yb ((HI.o.sameBelow HBc.o).trans hs)
  clear hx hs q0 q1 q2 q3 hy b0 b5
  gi_wp2
  go_wp2
  go_ret
  exact .inl ⟨false,rfl,HS3.o,.inr ⟨rfl,HX3.o⟩⟩
 ·exact ⟨rfl,.inr ⟨ch,rfl,hp,(HI.o.sameBelow HBc.o).trans hs⟩⟩
 have HI3:=yb (HIc.o.same hj hs)
 have HS3:=yb ((HI.o.sameBelow HBc.o).trans hs)
 have d5:=(HC.o.hd _ _ _ hj _ HC5.o).trans H5.o
 clear hj hs q0 q1 q2 q3 hy b0 b5
 gi_wp2
 go_wp2
 clear d5
 go_loopw [66] (fun iv wr=>∃i:Nat,iv=.int .i64 i∧i<=m∧Hid (Jo J O B0 l By Bi (pre.length+1+(BB w0 lt (args.take i) (some (.slice a m cap)) 0).1.length) wr)∧Hid (AN O w5 wr)∧Hid ((BB w0 lt (args.take i) (some (.slice a m cap)) 0).2=true)) (fun iv _=>m - (intOf iv).toNat)
 case atStart=>exact ⟨0,rfl,yI _,HI3,HS3,yb rfl⟩
 case round=>
  obtain ⟨i,rfl,hi,HIr,HSr,HOr⟩:=hrel
  by_cases hlt:i < m
  ·have hil:i < args.length:=by rw[Hm.o];exact hlt
   obtain ⟨b',o',rfl,hex⟩:=Og HRow.o i hil
   rw[yy] at hex
   have hn1:=Sh hil HOr.o
   have HNx:=yb hn1
   have HXs:Hid (∃post,X=(pre++(⟨b,o+3,M6 op lt,PS op lt,rn,ri⟩::(BB w0 lt (args.take i) (some (.slice (some ⟨b',o',none⟩) m cap)) 0).1))++((C9 w0 lt args[i] b' (o'+i*6)).1++post)):=yb (by
    obtain ⟨post,hx⟩:=HX.o
    obtain ⟨post2,hp2⟩:=Of (w:=w0) (lt:=lt) (b:=b') (o:=o') (n:=m) (c:=cap) (args.take (i+1)) (args.drop (i+1)) 0
    rw[zV,hn1] at hp2
    refine ⟨post2++post,?_⟩
    rw[hx,HP.o]
    simp only[hp2]
    simp)
   have HBs:Hid ((C9 w0 lt args[i] b' (o'+i*6)).2=false->∀W',J ((pre++(⟨b,o+3,M6 op lt,PS op lt,rn,ri⟩::(BB w0 lt (args.take i) (some (.slice (some ⟨b',o',none⟩) m cap)) 0).1)).length+(C9 w0 lt args[i] b' (o'+i*6)).1.length) O W'->Jp (ED 170) O W'):=yb (fun hf W' hj=>by
    have hst:=Mx (w:=w0) (lt:=lt) (b:=b') (o:=o') (n:=m) (c:=cap) (args.take (i+1)) (args.drop (i+1)) 0 (by rw[hn1];exact hf)
    rw[zV,hn1] at hst
    refine HBad.o (by rw[HP.o];simp only[hst];exact hf) W' ?_
    rw[HP.o]
    simp only[hst]
    have e1:pre.length+(⟨b,o+3,M6 op lt,PS op lt,rn,ri⟩::((BB w0 lt (args.take i) (some (.slice (some ⟨b',o',none⟩) m cap)) 0).1++(C9 w0 lt args[i] b' (o'+i*6)).1)).length=(pre++(⟨b,o+3,M6 op lt,PS op lt,rn,ri⟩::(BB w0 lt (args.take i) (some (.slice (some ⟨b',o',none⟩) m cap)) 0).1)).length+(C9 w0 lt args[i] b' (o'+i*6)).1.length:=by simp;omega
    rw[e1];exact hj)
   have HCl:=yb (fun (W:World) (hW:Jo J O B0 l By Bi (pre.length+1+(BB w0 lt (args.take i) (some (.slice (some ⟨b',o',none⟩) m cap)) 0).1.length) W)=>IH.o args[i] (yJ hil) b' (o'+i*6) (pre++(⟨b,o+3,M6 op lt,PS op lt,rn,ri⟩::(BB w0 lt (args.take i) (some (.slice (some ⟨b',o',none⟩) m cap)) 0).1)) W (by
    have e1:(pre++(⟨b,o+3,M6 op lt,PS op lt,rn,ri⟩::(BB w0 lt (args.take i) (some (.slice (some ⟨b',o',none⟩) m cap)) 0).1)).length=pre.length+1+(BB w0 lt (args.take i) (some (.slice (some ⟨b',o',none⟩) m cap)) 0).1.length:=by simp;omega
    rw[e1];exact hW) hex HXs.o HBs.o)
   have HNl:Hid ((pre++(⟨b,o+3,M6 op lt,PS op lt,rn,ri⟩::(BB w0 lt (args.take i) (some (.slice (some ⟨b',o',none⟩) m cap)) 0).1)).length+(C9 w0 lt args[i] b' (o'+i*6)).1.length=pre.length+1+(BB w0 lt (args.take (i+1)) (some (.slice (some ⟨b',o',none⟩) m cap)) 0).1.length):=yb (by rw[hn1];simp;omega)
   have HNo:Hid ((BB w0 lt (args.take (i+1)) (some (.slice (some ⟨b',o',none⟩) m cap)) 0).2=(C9 w0 lt args[i] b' (o'+i*6)).2):=yb (by rw[hn1])
   have HIr1:=yb (HIr.o.below HC.o.stays ((yg wr.heap.size wr).drew))
   have hki:(i:Int) < (m:Int):=by omega
   have e5:=(HC.o.hd _ _ _ HIr.o.j _ HC5.o).trans H5.o
   have eB:=HIr.o.i.2
   have HS1:Hid (wr.drew.cell? ⟨Bi,0,none⟩=some (.func (.func 71) #[] #[.pointer (some ⟨By,0,none⟩),.pointer (some ⟨Bi,0,none⟩)])∧wr.drew.cell? ⟨b,o+5,none⟩=some (.slice (some ⟨b',o',none⟩) m cap)):=yb ⟨HIr1.o.i.2,(HC.o.hd _ _ _ HIr1.o.j _ HC5.o).trans H5.o⟩
   have HSd:=yb (HSr.o.trans (HIr.o.sameBelow ((yg wr.heap.size wr).drew)))
   clear hn1 hex
   go_wp2_with fail
   go_region_held2 (fun w'=>w'.cell? ⟨Bi,0,none⟩=some (.func (.func 71) #[] #[.pointer (some ⟨By,0,none⟩),.pointer (some ⟨Bi,0,none⟩)])∧w'.cell? ⟨b,o+5,none⟩=some (.slice (some ⟨b',o',none⟩) m cap)) (first|exact HS1.o|exact HS2.o)
    (first|(go_at_call 71;refine (HCl.o _ HIr1.o).mono ?_;rintro e w2 (⟨r,rfl,hs2,hr⟩|⟨ch,rfl,hp,hs2⟩);rotate_left;exact ⟨rfl,.inr ⟨ch,rfl,hp,HSd.o.trans hs2⟩⟩;have HS2:=yb (And.intro (D6 hs2 HIr1.o.i.1 HIr1.o.i.2) (hr.elim (fun h=>(HC.o.hd _ _ _ h.2.2 _ HC5.o).trans H5.o) (fun h=>(HC.o.hdx _ _ h.2 _ HC5.o).trans H5.o)));have HR:=yb hr;have HSw:=yb hs2;clear hr hs2))
   rcases HR.o with ⟨rfl,hok2,hj2⟩|⟨rfl,hx2⟩
   ·have HJ2:=yb hj2
    have HO2:=yb hok2
    clear hok2 hj2 HR e5 eB
    go_wp2
    exact ⟨⟨i+1,by push_cast;rfl,by omega,yb (by rw[<-HNl.o];exact HIr1.o.same HJ2.o HSw.o),yb (HSd.o.trans HSw.o),yb (by rw[HNo.o];exact HO2.o)⟩,by simp[intOf];omega⟩
   ·have HX2:=yb hx2
    clear hx2 HR e5 eB
    go_wp2
    go_ret
    exact .inl ⟨false,rfl,HSd.o.trans HSw.o,.inr ⟨rfl,HX2.o⟩⟩
  ·obtain rfl:i=m:=by omega
   have HFin:Hid (P.2=true∧J (pre.length+P.1.length) O wr):=yb (by
    have h1:=HOr.o
    have h2:=HIr.o.j
    rw[<-Hm.o,yS] at h1 h2
    rw[HP.o]
    simp only[yz]
    rw[Hm.o] at h1 h2
    exact ⟨h1,by rw[show pre.length+((BB w0 lt args (some (.slice a i cap)) 0).1.length+1)=pre.length+1+(BB w0 lt args (some (.slice a i cap)) 0).1.length by omega];exact h2⟩)
   have hki:decide ((i:Int) < (i:Int))=false:=by simp
   go_wp2
   go_ret
   exact .inl ⟨true,rfl,HSr.o,.inl ⟨rfl,HFin.o.1,HFin.o.2⟩⟩
def DC(op n u:Int)(rn:ByteArray)(ri:Int)(m:Nat):Bool:=decide (op=0)&&(decide (n=0)&&(decide (u=0)&&(decide (rn.size=0∧ri=0)&&decide (m=0))))
theorem DD(s:ByteArray):s.size=0↔s.toList=[]:=by
 rw[xy,<-zv,FT]
theorem JS(op nn u:Int)(rn:ByteArray)(ri:Int)(a:Option Addr)(m cap:Nat)(w:World):
  Calls Tryz.prog 73 #[.agg #[.int .i64 op,.int .i64 nn,.int .i64 u,.string rn,.int .i64 ri,.slice a m cap]] w fun e w'=>e=.returned (.bool (DC op nn u rn ri m))∧Below w.heap.size w w':=by
 by_cases h0:op=0
 ·by_cases h1:nn=0
  ·by_cases h2:u=0
   ·subst h0 h1 h2
    go_enter Tryz.func73,Tryz.ntmps73
    go_wp2
    ·rename_i h1 h2
     go_ret
     refine ⟨AK ?_,(yg _ _).alloc (yf _) _⟩
     simp only[DC,xq (show rn.size=0∧ri=0 from ⟨(DD rn).2 h1,h2⟩)]
     rw[xZ];simp
    ·rename_i h1 h2
     go_ret
     refine ⟨AK ?_,(yg _ _).alloc (yf _) _⟩
     simp only[DC,xw (show ¬ (rn.size=0∧ri=0) from fun h=>h2 h.2)]
     simp
    ·rename_i h1
     go_ret
     refine ⟨AK ?_,(yg _ _).alloc (yf _) _⟩
     simp only[DC,xw (show ¬ (rn.size=0∧ri=0) from fun h=>h1 ((DD rn).1 h.1))]
     simp
   ·have b:(u==0)=false:=by simpa using h2
    subst h0 h1
    go_enter Tryz.func73,Tryz.ntmps73
    go_wp2
    go_ret
    exact ⟨AK (by simp[DC,h2]),(yg _ _).alloc (yf _) _⟩
  ·have b:(nn==0)=false:=by simpa using h1
   subst h0
   go_enter Tryz.func73,Tryz.ntmps73
   go_wp2
   go_ret
   exact ⟨AK (by simp[DC,h1]),(yg _ _).alloc (yf _) _⟩
 ·have b:(op==0)=false:=by simpa using h0
  go_enter Tryz.func73,Tryz.ntmps73
  go_wp2
  go_ret
  exact ⟨AK (by simp[DC,h0]),(yg _ _).alloc (yf _) _⟩
def BL(w:World)(X:Value)(n size:Nat)(cells:LV):Prop:=
 cells.length=n*size∧(∀u∈cells,u.oneCell'=true)∧∃a cap,X=.slice a n cap∧(n=0∨∃b o,a=some ⟨b,o,none⟩∧b < w.heap.size∧∀j u,cells[j]?=some u->w.cell? ⟨b,o+j,none⟩=some u)
theorem EU{t e:TypeId}{i:TypeInfo}{size:Nat}(f:Tryz.prog.underlying t=some (.slice e))(hi:Tryz.prog.info? e=some i)(w:World)(B:Nat)(ty:TypeId)(v:Value)(n:Nat)(xs:LV)(b:w.ownsRow B e size v n xs)(a:Option Addr)(c:Nat):
  (Builtin.append_ #[t,t] ty #[v,.slice a 0 c]).run Tryz.prog w=.ok v w:=by
 rcases b.2 with ⟨rfl,_⟩|⟨g,cap,h,rfl,_,_,d,j,_⟩
 ·cases a<;>simp[Builtin.append_,qj f,sizeOf,typeInfo,hi,Builtin.lenOf,Builtin.firstCells,loadCells,loadCellsFrom]
 ·cases a<;>simp[Builtin.append_,qj f,sizeOf,typeInfo,hi,Builtin.lenOf,Builtin.firstCells,storeCells,loadCells,loadCellsFrom,d]
theorem GH{ops:Array Oper}{o:Oper}{a:Act}{K:Act->World->Prop}{Q:QT}{E:Prop}{W:World}{t e:TypeId}{r:TypeInfo}{z:Value}{size d:Nat}(T:Tryz.prog.underlying t=some (.slice e))(hi:Tryz.prog.info? e=some r)(J:r.zero=some z)(F:r.size=size)(P:r.bytes=d)(L:z.cells.size=size)(N:0 < size)(H:d<=64)
 (B:Nat)(I:o.guard=none)(s x:Operand)(R:o.op=.call {callee:=.builtin .append,args:=#[s,x],argTypes:=#[t,t]})(v:Value)(n:Nat)(xs:LV)(hs:a.eval s=v)(f:W.ownsRow B e size v n xs)
 (X:Value)(m:Nat)(y:LV)(U:a.eval x=X)(Z:BL W X m size y)(q:n+m<=1000000)(l:B<=W.heap.size)
 (h:∀(A:Option Addr) (c:Nat) w',w'.ownsRow B e size (.slice A (n+m) c) (n+m) (xs++y)->W.grownBy w' v.ownBlock->K (a.put o.dst (.slice A (n+m) c)) w'):
  if Region.wanted o (yielded ops a.tmps)=true then Oper.wp Tryz.prog o a W K Q else E:=by
 have Y:Region.wanted o (yielded ops a.tmps)=true:=by simp[Region.wanted,I]
 rw[yw Y]
 obtain ⟨w,D,A,cap,rfl,k⟩:=Z
 by_cases V:m=0
 ·subst V
  obtain rfl:y=[]:=zv.1 (by simpa using w)
  have p:=EU T hi W B o.type v n xs f A cap
  obtain ⟨va,C,rfl⟩:∃a c,v=.slice a n c:=by
   rcases f.2 with ⟨rfl,O⟩|⟨g,cap,M,rfl,_⟩
   ·exact ⟨none,0,by rw[O]⟩
   ·exact ⟨_,_,rfl⟩
  unfold Oper.wp
  simp[execOp,R,resolve,invoke,builtin,hs,U,p,Result.andThen]
  have S:=h va C W (by simpa using f) ⟨rfl,rfl,rfl,yf _,fun _ _ _=>rfl⟩
  rw[qu] at S
  exact S
 ·obtain ⟨b,G,rfl,hb,hc⟩:=k.resolve_left V
  refine wp_append_own W s x t R B e r z size d T hi J F P L N v n xs hs f (aV b G) m cap y U w (fun j u hj=>?_) D (by unfold maxLen;omega) (by
   have:(n+m)*d<=1000000*64:=qA q H
   omega) l ?_
  ·rw[zA];exact hc j u hj
  ·intro v' w' i hg _
   obtain ⟨va,C,rfl⟩:∃a c,v'=.slice a (n+m) c:=by
    rcases i.2 with ⟨rfl,O⟩|⟨g,cap,M,rfl,_⟩
    ·exact ⟨none,0,by rw[O]⟩
    ·exact ⟨_,_,rfl⟩
   exact h va C w' i hg
def AL(u:Us):LV:=[.pointer (some ⟨u.b,u.o,none⟩),.int .i64 u.to,.int .i64 u.at_]
def CM(B:Nat)(w:World)(v:Value)(us:List Us):Prop:=w.ownsRow B 89 3 v us.length (us.flatMap AL)
theorem Si(B:Nat)(w:World):CM B w (.slice none 0 0) []:=⟨rfl,.inl ⟨rfl,rfl⟩⟩
theorem CI{ops:Array Oper}{o:Oper}{a:Act}{K:Act->World->Prop}{Q:QT}{E:Prop}{W:World}(B:Nat)(l:o.guard=none)(s x:Operand)(p:o.op=.call {callee:=.builtin .append,args:=#[s,x],argTypes:=#[154,154]})
 (v:Value)(us:List Us)(hs:a.eval s=v)(f:CM B W v us)(X:Value)(e:List Us)(t:a.eval x=X)(r:BL W X e.length 3 (e.flatMap AL))(g:us.length+e.length<=1000000)(b:B<=W.heap.size)
 (h:∀(j:Option Addr) (c:Nat) w',CM B w' (.slice j (us.length+e.length) c) (us++e)->W.grownBy w' v.ownBlock->K (a.put o.dst (.slice j (us.length+e.length) c)) w'):
  if Region.wanted o (yielded ops a.tmps)=true then Oper.wp Tryz.prog o a W K Q else E:=by
 have d:(Tryz.prog.info? 89).map (fun i=>(i.zero,i.size,i.bytes))=some (some (.agg #[.pointer none,iV 0,iV 0]),3,24):=by kernel_rfl
 obtain ⟨w,hi,m,k,n⟩:=info_parts d
 exact GH Tryz.underlying154 hi m k n rfl (by decide) (by decide) B l s x p v us.length _ hs f X e.length _ t r g b (fun j c w' q u=>h j c w' (by
  unfold CM
  rw[yn,zo]
  exact q) u)
theorem Nk{o:Oper}{a:Act}{K:Act->World->Prop}{Q:QT}{W:World}(B:Nat)(f:o.guard=none)(s x:Operand)(j:o.op=.call {callee:=.builtin .append,args:=#[s,x],argTypes:=#[154,154]})
 (v:Value)(us:List Us)(hs:a.eval s=v)(e:CM B W v us)(X:Value)(d:List Us)(m:a.eval x=X)(l:BL W X d.length 3 (d.flatMap AL))(g:us.length+d.length<=1000000)(b:B<=W.heap.size)
 (h:∀(i:Option Addr) (c:Nat) w',CM B w' (.slice i (us.length+d.length) c) (us++d)->W.grownBy w' v.ownBlock->K (a.put o.dst (.slice i (us.length+d.length) c)) w'):Oper.wp Tryz.prog o a W K Q:=by
 have k:=CI (ops:=#[]) (E:=True) (Q:=Q) B f s x j v us hs e X d m l g b h
 rwa [yw (by simp[Region.wanted,f])] at k
theorem IU:∀us:List Us,(us.flatMap AL).length=us.length*3
 |[]=>rfl
 |x::r=>by rw[zh,yn,IU r,yz];simp only[AL,yz,yH];omega
theorem Gt{w':World}{us:List Us}{b:Nat}(hb:w'.heap[b]?=some (.cells (us.flatMap AL).toArray 89 (0,0)))(c:Nat):BL w' (.slice (some ⟨b,0,none⟩) us.length c) us.length 3 (us.flatMap AL):=by
 refine ⟨?_,?_,some (aV b 0),c,rfl,.inr ⟨b,0,rfl,(yd.1 hb).1,fun j u e=>?_⟩⟩
 ·exact IU us
 ·intro u d
  obtain ⟨x,_,a⟩:=yX.1 d
  simp[AL] at a
  rcases a with rfl|rfl|rfl<;>rfl
 ·simp only[World.cell?,hb]
  simpa using e
def BE:List (List Us × Bool)->List Us × Bool
 |[]=>([],true)
 |x::r=>if x.2 then (x.1++(BE r).1,(BE r).2) else (x.1,false)
theorem EI:∀(l m:List (List Us × Bool)),BE (l++m)=if (BE l).2 then ((BE l).1++(BE m).1,(BE m).2) else BE l
 |[],m=>by simp[BE]
 |x::r,m=>by
  simp only[yK,BE,EI r m]
  by_cases h1:x.2=true
  ·by_cases h2:(BE r).2=true
   ·simp[h1,h2]
   ·simp[h1,h2]
  ·simp[h1]
theorem My{l:List (List Us × Bool)}{k:Nat}(h:k < l.length)(a:(BE (l.take k)).2=true):BE (l.take (k+1))=((BE (l.take k)).1++l[k].1,l[k].2):=by
 rw[yF h,EI,a,yw rfl]
 simp only[BE]
 by_cases h1:l[k].2=true
 ·simp[h1]
 ·simp[h1]
theorem Tz(l:List (List Us × Bool))(k:Nat):∃post,(BE l).1=(BE (l.take k)).1++post:=by
 have h:=EI (l.take k) (l.drop k)
 rw[zV] at h
 rw[h]
 by_cases h1:(BE (l.take k)).2=true
 ·rw[yw h1];exact ⟨_,rfl⟩
 ·rw[yq h1];exact ⟨[],by simp⟩
theorem Sj{l:List (List Us × Bool)}{k:Nat}(h:(BE (l.take k)).2=false):BE l=BE (l.take k):=by
 have h2:=EI (l.take k) (l.drop k)
 rw[zV,h] at h2
 exact h2
def Bv(e:Ex):Bool:=DC e.op e.n e.u e.rn e.ri e.args.length
def TA(a:Array Value):Addr:=match a.getD 0 undef with
 |.pointer (some p)=>p
 |_=>⟨0,0,none⟩
def Cp(w:World)(a:Array Value)(e:Kc):List Us × Bool:=if Bv e.1 then ([],true) else C9 w e.2 e.1 (TA a).block (TA a).off
def DE(w:World)(L:Bt)(x:Ar):List (List Us × Bool):=List.zipWith (Cp w) (BK L) (As x)
def CZ(a:Addr)(to at_:Int)(r:Rf):Us:=⟨a.block,a.off,to,at_,r.name,r.n⟩
def Ef(h:Aw)(l:List CY)(i:Nat):List Us:=match l[i]? with
 |some d=> [CZ (h.at 12 i 1) 4 0 d.on,CZ (h.at 12 i 10) (if d.river then 0 else 3) 0 d.crop]
 |none=> []
def F2(h:Aw)(l:List Cs)(i:Nat):List Us:=match l[i]? with
 |some d=> [CZ (h.at 8 i 0) 5 0 d.farm]
 |none=> []
def Gu(L:Bt)(l:List BG)(i:Nat):List Us:=match l[i]? with
 |some d=>CZ (L.rots.at 23 i 1) 4 0 d.on::(List.range (A2 L i).n).flatMap (F2 (A2 L i) d.turns)
 |none=> []
def CP(h:Aw)(l:List AZ)(i:Nat):List Us:=match l[i]? with
 |some d=> [CZ (h.at 37 i 2) 5 0 d.farm,CZ (h.at 37 i 4) (if d.kind=1 then 0 else 4) 0 d.reach]
 |none=> []
def DZ(h:Aw)(l:List D9)(i:Nat):List Us:=match l[i]? with
 |some d=> [CZ (h.at 11 i 1) 5 0 d.farm,CZ (h.at 11 i 3) 4 0 d.reach]
 |none=> []
def Hb(k:Int):Bool:=decide (1<=k)&&decide (k<=3)
def Ca(x:Ar):Bool:=x.rights.all fun d=>Hb d.kind
def Ce(L:Bt)(x:Ar):List Us:=
 (((List.range L.farms.n).flatMap (Ef L.farms x.farms)++(List.range L.rots.n).flatMap (Gu L x.rots))++(List.range L.rights.n).flatMap (CP L.rights x.rights))++(List.range L.duties.n).flatMap (DZ L.duties x.duties)
def El(w:World)(L:Bt)(x:Ar):List (List Us × Bool):=DE w L x++[(if Ca x then Ce L x else [],Ca x)]
def BS(w:World)(L:Bt)(x:Ar):List Us × Bool:=BE (El w L x)
def WV(N:NP)(w:World)(C D:Addr->Prop)(a:Array Value)(e:Kc):Prop:=
 ∃b o cs,a=#[.pointer (some ⟨b,o,none⟩),.int .i64 e.2]∧w.rangeAt b o cs∧AI N w e.1 cs∧Sg w C e.1 b o∧C ⟨b,o+1,none⟩∧C ⟨b,o+2,none⟩∧C ⟨b,o+3,none⟩∧D ⟨b,o+4,none⟩∧(e.1.op=0->C ⟨b,o+4,none⟩)
structure KP (N:Nat->Prop) (w:World) (C D:Addr->Prop) (Bu:Nat) (L:Bt) (x:Ar):Prop where
 ok:L.Ok
 heads:IS L Bu w
 box:C ⟨Bu,0,none⟩
 src:∀j,19<=j->j<=25->C ⟨L.s,j,none⟩
 turns:∀i,i < L.rots.n->C (L.rots.at 23 i 22)
 river:∀i (h:i < x.farms.length),C (L.farms.at 12 i 3)∧w.cell? (L.farms.at 12 i 3)=some (.bool x.farms[i].river)
 kind:∀i (h:i < x.rights.length),C (L.rights.at 37 i 0)∧w.cell? (L.rights.at 37 i 0)=some (.int .i64 x.rights[i].kind)
 top:AD (WV N w C D) (BK L) (As x)
 nfarms:L.farms.n=x.farms.length
 nrots:L.rots.n=x.rots.length
 nturns:∀i (h:i < x.rots.length),(A2 L i).n=x.rots[i].turns.length
 nrights:L.rights.n=x.rights.length
 nduties:L.duties.n=x.duties.length
 few:∀e∈As x,0<=e.2∧e.2<=1000000
 short:(Ce L x).length<=1000000
def Xp(a:World)(C D:Addr->Prop)(W:World):Prop:=(∀p,C p->W.cell? p=a.cell? p)∧∀p,D p->∃z,W.cell? p=some (.int .i64 z)
theorem EW{N:NP}{w:World}{C D:Addr->Prop}{Bu:Nat}{L:Bt}{x:Ar}(h:KP N w C D Bu L x):(DE w L x).length=(BK L).length:=by
 unfold DE
 rw[List.length_zipWith,<-h.top.length];simp
theorem KQ(n:Nat)(p:1<=n)(Bs:Nat)(L:Bt)(r:L.Ok):V7 Fence.wide n Tryz.prog 92 #[.pointer (some ⟨Bs,0,none⟩)] (IS L Bs) (BK L) none:=by
 intro l J Jx Jp W o c _ d b _ a h0
 refine (yY.2 (Q4 n p l Bs L r J Jx Jp W ⟨o,c,d,b,fun k m O i q g j=>a k m O i q g j⟩ h0)).mono ?_
 rintro e W' (⟨f,h|h⟩|h)
 ·exact .inl ⟨f,.inl ⟨rfl,h⟩⟩
 ·exact .inl ⟨f,.inr h⟩
 ·exact .inr h
theorem EX(s:Nat)(w:World):Calls Tryz.prog 72 #[.pointer (some ⟨s,0,none⟩)] w fun x w'=>x=.returned (.func (.func 92) #[] #[.pointer (some ⟨w.heap.size,0,none⟩)])∧w'=w.alloc (.cells #[.pointer (some ⟨s,0,none⟩)] 85):=by
 have a:∀(fn:Fn) (first cap:Array Value) (w:World),(Instr.makeFunc fn first cap).run Tryz.prog w=.ok (.func fn first cap) w:=fun _ _ _ _=>rfl
 go_enter Tryz.func72,Tryz.ntmps72
 go_wp2
 go_ret
 exact ⟨rfl,rfl⟩
end Go.Proofs.YtjofgpfocadomaaGreatDoor
namespace Go.Proofs.YtjofgpfocadomaaGreatDoor
open Go.RowKit
attribute [local go_sem] Oper.semAt_some
def JT(x:Ar):Bool:=decide (x.lets.length<=64)&&(decide (x.crops.length<=32)&&(decide (x.reaches.length<=64)&&(decide (x.farms.length<=600)&&(decide (x.rots.length<=64)&&(decide (x.rights.length<=256)&&decide (x.duties.length<=256))))))
def G4(l:List BG):Bool:=l.all fun d=>decide (d.turns.length<=64)
def Em(x:Ar):Bool:=(As x).all fun e=>decide (At e.1<=8)
def Nl(w:World)(ok:Bool)(e:Ending)(w':World):Prop:=Below w.heap.size w w'∧e=if ok then .returned (.tuple #[]) else .panicked [{v:=.iface 40 (.int .i64 2),recovered:=false}]
def LJ(Bs:Nat)(a:World)(p:NP)(k:Nat)(O:NP)(W:World):Prop:=(∀b,O b->Bs < b)∧Below (Bs+1) a W∧p k
theorem LJ.stays{Bs:Nat}{j:World}{p:NP}(m:j.heap.size=Bs+1):Cd (LJ Bs j p):=by
 intro k O W n W' d i g e c a f
 have hs:=d.2.1.size
 refine ⟨fun b hb=>(f b hb).elim (d.1 b) (fun h=>by omega),d.2.1.trans ⟨g,e,c,i,fun b hb=>a b (fun l=>?_) (by omega)⟩,d.2.2⟩
 have:=d.1 b l
 omega
def Q5(x:Ar)(k:Nat):Prop:=∀j (h:j < (As x).length),j < k->At (As x)[j].1<=8
def XC(N:NP)(s:Nat)(w:World)(x:Ar)(k b o:Nat):Prop:=∃(h:k < (As x).length) (cs:LV),(b=s∨N b)∧w.rangeAt b o cs∧AI N w (As x)[k].1 cs
theorem Jq{B:Nat}{a w:World}(h:Below B a w){g:Nat}(b:B<=g)(o:Obj):Below B a (w.putObj g o):=
 h.trans ⟨rfl,rfl,rfl,by simp,fun k c=>World.putObj_heap_other (by omega)⟩
theorem CQ{B:Nat}{a w:World}(h:Below B a w){g:Nat}(b:B<=g)(row:Array Value):Below B a (w.setRow g row):=
 h.trans ⟨rfl,rfl,rfl,by simp[World.setRow],fun k c=>by simp[World.setRow,yL,show g≠k by omega]⟩
section
variable{N:NP}{w:World}
theorem Nn{e:Ex}{c:LV}(h:AI N w e c):∀v∈c,v.oneCell'=true:=by
 obtain ⟨a,cap,rfl,_⟩:=h.cells
 intro v b
 simp at b
 rcases b with rfl|rfl|rfl|rfl|rfl|rfl<;>rfl
theorem IV{t:Aw}{cs:LV}{d:BG}(h:H8 N w t cs d):∀v∈cs,v.oneCell'=true:=by
 obtain ⟨_,_,c0,c1,c2,rfl,b,g1,c,_⟩:=h
 intro v a
 simp only[AU,yO,yv,za,zP] at a
 rcases a with rfl|(rfl|rfl)|rfl|h|h|h|rfl
 ·rfl
 ·rfl
 ·rfl
 ·rfl
 ·exact Nn b v h
 ·exact Nn g1 v h
 ·exact Nn c v h
 ·rfl
theorem Mz{t:Aw}{cs:LV}{d:BG}(h:H8 N w t cs d)(_:cs.length=23):cs[22]?=some (.slice t.a t.n t.c):=by
 obtain ⟨_,_,c0,c1,c2,rfl,b,g1,e,_⟩:=h
 obtain ⟨_,_,rfl,_⟩:=b.cells
 obtain ⟨_,_,rfl,_⟩:=g1.cells
 obtain ⟨_,_,rfl,_⟩:=e.cells
 rfl
theorem Q6{t:Aw}{cs:LV}{d:BG}(h:H8 N w t cs d):t.n=d.turns.length:=by
 obtain ⟨_,_,_,_,_,_,_,_,_,h,_⟩:=h
 exact h
end
def Wq(s:Nat)(F:Bool)(w:World)(a:Act)(w2:World):Prop:=w2=w∧∃u6 u7 u8 u9 g L R C t M B a2 f T G N p H o v V O x E r j Y q h d e Z D U K u J k I P S l W n Q b y z c i m a0 X A,a={tmps:=#[.pointer (some ⟨s,0,none⟩),undef,.bool F,undef,undef,undef,u6,u7,u8,u9,g,L,R,C,t,M,B,a2,f,T,G,N,p,H,o,v,V,O,x,E,r,j,Y,q,h,d,e,Z,D,U,K,u,J,k,I,P,S,l,W,n,Q,b,y,z,c,i,m,a0,X,A,undef,undef,undef,undef,undef,undef,undef,undef,undef,undef,undef,undef,undef,undef,undef,undef,undef,undef,undef,undef,undef,undef,undef,undef,undef,undef,undef,undef,undef],defers:=[]}
theorem JU{N:NP}{w:World}{L:Bt}{cs:LV}{x:Ar}(h:BH N w L cs x)(hr:w.rangeAt L.s 0 cs)(hN:∀b,N b->b < w.heap.size)(hs:L.s < w.heap.size)(hd:∀e∈As x,At e.1<=1000000):
  Calls Tryz.prog 44 #[.pointer (some ⟨L.s,0,none⟩)] w (Nl w (JT x&&(G4 x.rots&&Em x))):=by
 have HV:=yb h
 have af:=yb hr
 have HN:=yb hN
 have HD:=yb hd
 have Y:=yb (KO (Bs:=w.heap.size) (h.same (fun b h=>h) (Ei hN ((yg _ _).alloc (yf _) (.cells #[pV L.s 0] 0)))) (A0 hr (((yg _ _).alloc (yf _) (.cells #[pV L.s 0] 0)).block _ hs)) (by
  have:(w.alloc (.cells #[pV L.s 0] 0)).heap[w.heap.size]?=some (.cells #[pV L.s 0] 0 (0,0)):=World.alloc_heap_new _ _
  simp only[World.cell?,this];simp))
 have J:w.cell? (aV L.s 19)=some L.lets.v:=(((yg w.heap.size w).alloc (yf _) (.cells #[pV L.s 0] 0)).cell (p:=(aV L.s 19)) hs).symm.trans Y.o.lets
 have U:w.cell? (aV L.s 20)=some L.crops.v:=(((yg w.heap.size w).alloc (yf _) (.cells #[pV L.s 0] 0)).cell (p:=(aV L.s 20)) hs).symm.trans Y.o.crops
 have P:w.cell? (aV L.s 21)=some L.reaches.v:=(((yg w.heap.size w).alloc (yf _) (.cells #[pV L.s 0] 0)).cell (p:=(aV L.s 21)) hs).symm.trans Y.o.reaches
 have Z:w.cell? (aV L.s 22)=some L.farms.v:=(((yg w.heap.size w).alloc (yf _) (.cells #[pV L.s 0] 0)).cell (p:=(aV L.s 22)) hs).symm.trans Y.o.farms
 have ap:w.cell? (aV L.s 23)=some L.rots.v:=(((yg w.heap.size w).alloc (yf _) (.cells #[pV L.s 0] 0)).cell (p:=(aV L.s 23)) hs).symm.trans Y.o.rots
 have V:w.cell? (aV L.s 24)=some L.rights.v:=(((yg w.heap.size w).alloc (yf _) (.cells #[pV L.s 0] 0)).cell (p:=(aV L.s 24)) hs).symm.trans Y.o.rights
 have M:w.cell? (aV L.s 25)=some L.duties.v:=(((yg w.heap.size w).alloc (yf _) (.cells #[pV L.s 0] 0)).cell (p:=(aV L.s 25)) hs).symm.trans Y.o.duties
 unfold Aw.v at J U P Z ap V M
 have n1:=h.lets.1;have n2:=h.crops.1;have n3:=h.reaches.1;have n4:=h.farms.1;have n5:=h.rots.1;have n6:=h.rights.1;have n7:=h.duties.1
 have hF:JT x=(decide (L.lets.n<=64)&&(decide (L.crops.n<=32)&&(decide (L.reaches.n<=64)&&(decide (L.farms.n<=600)&&(decide (L.rots.n<=64)&&(decide (L.rights.n<=256)&&decide (L.duties.n<=256))))))):=by unfold JT;rw[n1,n2,n3,n4,n5,n6,n7]
 have HF:=yb hF
 have N5:=yb n5
 clear h hr hN hd Y n1 n2 n3 n4 n5 n6 n7 hF
 refine Bg (n:=10) Tryz.func44 rfl ?_
 simp only[Tryz.ntmps44,yM,yz,yH,Nat.reduceAdd,Nat.reduceSub,zD,zE,zR,zK,yQ,yK]
 generalize co:JT x=F at HF ⊢
 clear co
 refine A9 (A4 (Code.wp_mono (Q:=Exit.then (Wq L.s F w) (fun _ _ _=>False)) ?_ ?_))
 rotate_left
 ·go_wp2
  all_goals
   first
   |(obtain rfl:F=false:=by rw[HF.o];simp only[Bool.and_eq_false_iff,decide_eq_false_iff_not];omega
     exact ⟨rfl,_,_,_,_,_,_,_,_,_,_,_,_,_,_,_,_,_,_,_,_,_,_,_,_,_,_,_,_,_,_,_,_,_,_,_,_,_,_,_,_,_,_,_,_,_,_,_,_,_,_,_,_,_,_,rfl⟩)
   |(obtain rfl:F=decide ((L.duties.n:Int)<=256):=by rw[HF.o,xZ];simp only[yE,yT];omega
     exact ⟨rfl,_,_,_,_,_,_,_,_,_,_,_,_,_,_,_,_,_,_,_,_,_,_,_,_,_,_,_,_,_,_,_,_,_,_,_,_,_,_,_,_,_,_,_,_,_,_,_,_,_,_,_,_,_,_,rfl⟩)
 rintro (_|id|l|_|ch|_) a' w' h
 rotate_left
 ·exact h.elim
 ·exact h.elim
 ·exact h.elim
 ·exact h.elim
 ·exact h.elim
 obtain ⟨rfl,u6,u7,u8,u9,av,cx,cz,c9,bj,b7,b4,bu,bd,d0,ct,bo,bi,b5,cn,cq,ce,cy,bm,cd,bk,bx,cf,ay,cj,bw,ci,bt,cc,d1,cw,b0,cv,aw,cu,b8,bp,ax,bq,bz,ba,bb,cr,cp,bv,ck,cl,cg,b9,bn,rfl⟩:=h
 clear J U P Z V M
 refine A9 (A4 ?_)
 go_wp2
 go_loopw [2,65] (fun fv iv wr=>∃i:Nat,i<=L.rots.n∧iv=iV i∧fv=.bool (F&&G4 (x.rots.take i))∧Hid (Below w'.heap.size w' wr)) (fun _ iv _=>L.rots.n - (intOf iv).toNat)
 case atStart=>exact ⟨0,yI _,rfl,by simp[G4],yb (yg _ _)⟩
 case round=>
  obtain ⟨i,hi,rfl,rfl,y⟩:=hrel
  by_cases az:i < L.rots.n
  ·have ag:i < x.rots.length:=by rw[<-N5.o];exact az
   obtain ⟨b,o,f,he,bg,t,I,C⟩:=HV.o.rots.2.2 i ag
   have I:=A0 I (y.o.block b (HN.o b bg))
   have T:=IV C
   have a6:=Mz C t
   have X:=Q6 C
   have ht:G4 (x.rots.take (i+1))=(G4 (x.rots.take i)&&decide ((A2 L i).n<=64)):=by
    rw[yF ag]
    unfold G4
    rw[xv,X]
    simp
   have HT:=yb ht
   have be:(i:Int) < (L.rots.n:Int):=by omega
   have d2:L.rots.n<=140737488355328:=by have:=HV.o.rots.2.1;have:=N5.o;omega
   have ai:=yb I
   have a0:=yb (zb T)
   have a2:Hid ((Tryz.prog.info? 109).map (·.size)=some f.length):=yb (by rw[t];kernel_rfl)
   have S:Hid ((Tryz.prog.info? 109).map (·.size)=some f.toArray.size):=yb (by rw[yM];exact a2.o)
   have R:=yb t
   rw[he] at*
   have d6:((wr.alloc (.cells #[.string ⟨#[]⟩,.string ⟨#[]⟩,iV 0,iV 0,iV 0,iV 0,iV 0,.string ⟨#[]⟩,iV 0,.slice none 0 0,iV 0,iV 0,iV 0,.string ⟨#[]⟩,iV 0,.slice none 0 0,iV 0,iV 0,iV 0,.string ⟨#[]⟩,iV 0,.slice none 0 0,.slice none 0 0] 109)).setRow wr.heap.size f.toArray).cell? (aV wr.heap.size 22)=some (.slice (A2 L i).a (A2 L i).n (A2 L i).c):=by
    have cm:(wr.alloc (.cells #[.string ⟨#[]⟩,.string ⟨#[]⟩,iV 0,iV 0,iV 0,iV 0,iV 0,.string ⟨#[]⟩,iV 0,.slice none 0 0,iV 0,iV 0,iV 0,.string ⟨#[]⟩,iV 0,.slice none 0 0,iV 0,iV 0,iV 0,.string ⟨#[]⟩,iV 0,.slice none 0 0,.slice none 0 0] 109)).heap[wr.heap.size]?=some (.cells #[.string ⟨#[]⟩,.string ⟨#[]⟩,iV 0,iV 0,iV 0,iV 0,iV 0,.string ⟨#[]⟩,iV 0,.slice none 0 0,iV 0,iV 0,iV 0,.string ⟨#[]⟩,iV 0,.slice none 0 0,iV 0,iV 0,iV 0,.string ⟨#[]⟩,iV 0,.slice none 0 0,.slice none 0 0] 109 (0,0)):=World.alloc_heap_new _ _
    simp only[World.cell?,World.setRow,yL,cm]
    simp[a6]
   clear I X ht t he T C
   generalize G4 (x.rots.take i)=G at HT ⊢
   cases ad:(F&&G) with
   |false=>
    go_wp2_with (first|(refine yj rfl 109 _ rfl b (o+i*23) rfl f _ ai.o qH rfl a2.o ?_)|(refine ze rfl 109 _ _ rfl wr.heap.size f.toArray rfl rfl 109 _ (World.alloc_heap_new _ _) S.o (by simp[R.o]) a0.o ?_))
    refine ⟨⟨i+1,by omega,by push_cast;rfl,by rw[HT.o];revert ad;cases F<;>cases G<;>simp<;>omega,yb (CQ (y.o.alloc y.o.size _) y.o.size _)⟩,by simp[intOf];omega⟩
   |true=>
    go_wp2_with (first|(refine yj rfl 109 _ rfl b (o+i*23) rfl f _ ai.o qH rfl a2.o ?_)|(refine ze rfl 109 _ _ rfl wr.heap.size f.toArray rfl rfl 109 _ (World.alloc_heap_new _ _) S.o (by simp[R.o]) a0.o ?_))
    refine ⟨⟨i+1,by omega,by push_cast;rfl,by rw[HT.o];revert ad;cases F<;>cases G<;>simp<;>omega,yb (CQ (y.o.alloc y.o.size _) y.o.size _)⟩,by simp[intOf];omega⟩
  ·obtain rfl:i=L.rots.n:=by omega
   have be:decide ((L.rots.n:Int) < (L.rots.n:Int))=false:=by simp
   have ab:x.rots.take L.rots.n=x.rots:=by rw[N5.o];exact yS
   rw[ab]
   clear ab
   go_wp2
   cases ah:(F&&G4 x.rots) with
   |false=>
    have g:(F&&(G4 x.rots&&Em x))=false:=by rw[<-Bool.and_assoc,ah];rfl
    rw[g]
    clear g
    refine A9 (A4 ?_)
    go_wp2_with (first|(go_at_call 69;refine (Co _ _).mono ?_;rintro e w2 ⟨rfl,rfl⟩))
    exact ⟨y.o,rfl⟩
   |true=>
    have g:(F&&(G4 x.rots&&Em x))=Em x:=by rw[<-Bool.and_assoc,ah];rfl
    rw[g]
    clear g
    refine A9 (A4 ?_)
    go_wp2_with (first|(go_at_call 69;refine (Cw _ _).mono ?_;rintro e w2 ⟨rfl,rfl⟩))
    refine A9 (A4 ?_)
    go_wp2_with (first|(go_at_call 72;refine (EX _ _).mono ?_;rintro e w2 ⟨rfl,rfl⟩))
    refine De ?_
    have HE:=yb (IA HV.o af.o)
    have A:Below w'.heap.size w' (w2.alloc (.cells #[pV L.s 0] 85)):=y.o.alloc y.o.size _
    have bh:=yb A
    have K:(w2.alloc (.cells #[pV L.s 0] 85)).cell? (aV w2.heap.size 0)=some (pV L.s 0):=by
     have:(w2.alloc (.cells #[pV L.s 0] 85)).heap[w2.heap.size]?=some (.cells #[pV L.s 0] 85 (0,0)):=World.alloc_heap_new _ _
     simp only[World.cell?,this];simp
    have an:(w2.alloc (.cells #[pV L.s 0] 85)).heap.size=w2.heap.size+1:=by simp
    have am:=yb K
    have u:=yb an
    clear K an A
    have aa:∀W,Below (w2.heap.size+1) (w2.alloc (.cells #[pV L.s 0] 85)) W->Below w'.heap.size w' W:=fun W hW=>bh.o.trans (hW.mono (Nat.le_succ_of_le y.o.size))
    have m:=yb aa
    clear aa
    have ak:Hid (w'.heap.size<=w2.heap.size):=yb y.o.size
    clear y
    generalize d7:w2.alloc (.cells #[pV L.s 0] 85)=W1 at*
    refine CK (n:=10) Tryz.func44 rfl (fun _ _=>rfl) (KQ 9 (by omega) w2.heap.size L HV.o.ok) (fun a ha=>by
      obtain ⟨i,hi,rfl⟩:=zc.1 ha
      obtain ⟨b,o,c,h1,_⟩:=HE.o.get i hi (by rw[<-HE.o.length];exact hi)
      rw[h1];rfl)
     (LJ w2.heap.size W1 (Q5 x)) (fun _ _ _=>False) (fun ch=>LJ w2.heap.size W1 (fun _=>ch=[{v:=.iface 40 (iV 2),recovered:=false}]∧Em x=false) 0)
     (fun k a=>(LJ w2.heap.size W1 fun k=>Q5 x k∧∃b o lt,XC N L.s w' x k b o∧a={tmps:=#[pV L.s 0,undef,.bool true,undef,u4,pV b o,u6,u7,u8,u9,av,cx,cz,c9,bj,b7,b4,bu,bd,d0,ct,bo,bi,b5,cn,cq,ce,cy,bm,cd,bk,bx,cf,ay,cj,bw,ci,bt,cc,d1,cw,b0,cv,aw,cu,b8,bp,ax,bq,bz,ba,bb,cr,cp,bv,ck,cl,cg,b9,bn,pV L.s 0,pV L.s 0,pV L.s 23,.slice L.rots.a L.rots.n L.rots.c,iV L.rots.n,iV L.rots.n,.bool false,u67,u68,u69,u70,u71,u72,u73,u74,u75,u76,.bool true,.tuple #[],pV L.s 0,.func (.func 92) #[] #[pV w2.heap.size 0],pV b o,iV lt,undef,undef,undef,undef,undef,undef],defers:=[]}) k) ?_ (fun _ _ _ _ _ _ h=>h.elim) (fun _ _ O W O' W' h=>LJ.stays u.o 0 O W O' W' h) ?_ ?_ (fun _ _ _ h=>h.elim) (fun _ h=>by cases h) ?_ ?_ ?_ ?_ (fun _ _ _ _ _ _ h=>h.elim) ?_
    ·exact LJ.stays u.o
    ·exact fun a=>LJ.stays u.o
    ·rintro k O W ⟨hO,hb,hp⟩
     exact KO (HV.o.same (fun b h=>h) (Ei HN.o (m.o W hb))) (A0 af.o ((m.o W hb).block _ hs)) ((hb.cell (p:=(aV w2.heap.size 0)) (xW _)).trans am.o)
    ·exact ⟨fun _ h=>h.elim,yg _ _,fun j _ B=>absurd B (by omega)⟩
    ·intro k hk O W l B hO hl _
     obtain ⟨b,o,f,h1,h2,h3,h4⟩:=HE.o.get k hk (by rw[<-HE.o.length];exact hk)
     have H:k < (As x).length:=by rw[<-HE.o.length];exact hk
     rw[h1]
     generalize (As x)[k].2=lt
     have E:=yb B
     have HP:Hid (XC N L.s w' x k b o):=yb ⟨H,f,h2,h3,h4⟩
     clear B hO hl h1 h2 h3 h4
     gi_wp2
     first
     |exact ⟨AN.refl _ _,E.o.1,E.o.2.1,E.o.2.2,b,o,lt,HP.o,rfl⟩
     |(rename_i hK;exact hK _ _ ⟨AN.refl _ _,E.o.1,E.o.2.1,E.o.2.2,b,o,lt,HP.o,rfl⟩)
     |(rename_i hK _;exact hK _ _ ⟨AN.refl _ _,E.o.1,E.o.2.1,E.o.2.2,b,o,lt,HP.o,rfl⟩)
     |fail
    ·rintro k hk O W l a1 hl ac au ⟨hO,hb,hd,b,o,lt,⟨H,f,h1,h2,h3⟩,rfl⟩
     obtain ⟨ea,d3,rfl,e1,e2,e3⟩:=h3.cells
     have ao:b < w'.heap.size:=by
      rcases h1 with rfl|h1
      ·exact hs
      ·exact HN.o b h1
     obtain ⟨c0,c1,c2,c3,c4,c5⟩:=Br (A0 h2 ((m.o W hb).block b ao))
     have hw:AI N W (As x)[k].1 _:=h3.same (fun b h=>h) (Ei HN.o (m.o W hb))
     have r:=yb (Sb (As x)[k].1 hw (fun b A=>yt (HN.o b A) (m.o W hb).size) (HD.o _ (yJ H)))
     have HO:=yb hO
     have ae:=yb au
     have aj:=u.o
     have al:Hid (w2.heap.size+1<=W.heap.size):=yb (by rw[<-aj];exact hb.size)
     clear aj
     have aq:=yb hb
     have c8:=yb hd
     have HK:=yb H
     have hX:Hid (∀d,d=At (As x)[k].1->(d<=8->Q5 x (k+1))∧(8 < d->Em x=false)):=yb fun d d4=>by
      refine ⟨fun h j B d5=>?_,fun h=>?_⟩
      ·rcases zO j k with h9|h9
       ·exact c8.o j B h9
       ·obtain rfl:j=k:=by omega
        omega
      ·unfold Em
       rw[xu]
       exact ⟨_,yJ HK.o,by simp;omega⟩
     clear au hw hO hb hd hl ac h2 h3 e1 e2 e3 h1 ao
     by_cases h8:At (As x)[k].1<=8
     ·have HT:=yb ((hX.o _ rfl).1 h8)
      have z:decide ((At (As x)[k].1:Int)<=8)=true:=by simp;omega
      clear h8 hX
      generalize At (As x)[k].1=dd at r z
      gi_wp2_with fail
      refine ⟨trivial,zm (CallsIn.inRound l (yY.2 r.o)) ?_⟩
      rintro e w3 ⟨rfl,q⟩
      gi_wp2_with fail
      refine ⟨trivial,zm (CallsIn.inRound l (yY.2 (Cw _ _))) ?_⟩
      rintro e w4 ⟨rfl,rfl⟩
      try gi_wp2_with fail
      exact ⟨⟨q.size,fun b hb=>q.block b (ae.o b hb)⟩,HO.o,aq.o.trans (q.mono al.o),HT.o⟩
     ·have HT:=yb ((hX.o _ rfl).2 (by omega))
      have z:decide ((At (As x)[k].1:Int)<=8)=false:=by simp;omega
      clear h8 hX
      generalize At (As x)[k].1=dd at r z
      gi_wp2_with fail
      refine ⟨trivial,zm (CallsIn.inRound l (yY.2 r.o)) ?_⟩
      rintro e w3 ⟨rfl,q⟩
      gi_wp2_with fail
      refine ⟨trivial,zm (CallsIn.inRound l (yY.2 (Co _ _))) ?_⟩
      rintro e w4 ⟨rfl,rfl⟩
      try gi_wp2_with fail
      exact ⟨rfl,⟨q.size,fun b hb=>q.block b (ae.o b hb)⟩,HO.o,aq.o.trans (q.mono al.o),rfl,HT.o⟩
    ·rintro - D O W hD - B a7
     have a8:Em x=true:=by
      unfold Em
      rw[yW]
      intro e he
      obtain ⟨j,ar,rfl⟩:=zc.1 he
      simp only[yT]
      exact B.2.2 j ar (by rw[HE.o.length];exact ar)
     rw[a8]
     exact ⟨by simp,.inl ⟨_,_,rfl,run_takeDeferred a7,⟨_,zs rfl _ _ _,Jq (m.o W B.2.1) (by have:=u.o;have:=ak.o;omega) _,rfl⟩⟩⟩
    ·rintro D ch O W hD - ⟨-,hb,rfl,hd⟩ a7
     rw[hd]
     exact ⟨by simp,.inl ⟨_,_,rfl,run_takeDeferred a7,⟨Jq (m.o W hb) (by have:=u.o;have:=ak.o;omega) _,rfl⟩⟩⟩
end Go.Proofs.YtjofgpfocadomaaGreatDoor
namespace Go.Proofs.YtjofgpfocadomaaGreatDoor
open Go.RowKit
theorem G8{W:World}{b o m i:Nat}{s:ByteArray}{z most:Int}{a:LB}(h0:W.cell? ⟨b,o,none⟩=some (.string s))(h1:W.cell? ⟨b,o+1,none⟩=some (.int .i64 z))(g:W.frozen? ⟨b,o+1,none⟩=false)(f:BT W m a)(hs:s.size<=maxLen)(c:D0 a s=some i)(hi:(i:Int) < most):
  Calls Tryz.prog 68 #[.pointer (some ⟨b,o,none⟩),.map (some m),.int .i64 most] W fun e w'=>e=.returned (.tuple #[])∧w'=W.setCell ⟨b,o+1,none⟩ (.int .i64 (i:Int)):=by
 have d:=f.look s hs
 simp only[Ip,c] at d
 have h:=yb c
 clear c f
 go_enter Tryz.func68,Tryz.ntmps68
 go_wp2_with (first|(go_at_call 69;refine (Cw _ _).mono ?_;rintro e j ⟨rfl,rfl⟩))
 go_end0
 exact ⟨rfl,rfl⟩
theorem I0{W:World}{b o m:Nat}{s:ByteArray}{most:Int}{a:LB}(h0:W.cell? ⟨b,o,none⟩=some (.string s))(g:BT W m a)(hs:s.size<=maxLen)(f:∀i,D0 a s=some i->¬ (i:Int) < most):
  Calls Tryz.prog 68 #[.pointer (some ⟨b,o,none⟩),.map (some m),.int .i64 most] W fun e w'=>e=.panicked (ED 170)∧w'=W:=by
 have d:=g.look s hs
 cases c:D0 a s with
 |none=>
  simp only[Ip,c] at d
  have k:=yb f;have h:=yb c
  clear f g c
  go_enter Tryz.func68,Tryz.ntmps68
  go_wp2_with (first|(go_at_call 69;refine (Co _ _).mono ?_;rintro e j ⟨rfl,rfl⟩))
  exact ⟨rfl,rfl,rfl⟩
 |some i=>
  have hi:=f i c
  simp only[Ip,c] at d
  have h:=yb c
  clear f g c
  go_enter Tryz.func68,Tryz.ntmps68
  go_wp2_with (first|(go_at_call 69;refine (Co _ _).mono ?_;rintro e j ⟨rfl,rfl⟩))
  exact ⟨rfl,rfl,rfl⟩
def Ty(w:World)(b t:Nat):Prop:=∃c,w.heap[b]?=some (.cells c t (0,0))
theorem Ty.inj{w:World}{b t d:Nat}(h:Ty w b t)(f:Ty w b d):t=d:=by
 obtain ⟨c,e⟩:=h
 obtain ⟨g,a⟩:=f
 rw[e] at a
 cases a;rfl
theorem Ty.lt{w:World}{b t:Nat}(h:Ty w b t):b < w.heap.size:=by
 obtain ⟨c,e⟩:=h
 exact (yd.1 e).1
def FD(t o:Nat):Nat:=
 if t=35 then (if o=0 then 0 else if o < 19 then 1 else 0)
 else if t=50 then (if o % 7=0 then 0 else 1)
 else if t=92 then (if o % 7=0 then 0 else 1)
 else if t=66 then (if o % 51 < 2 then 0 else if o % 51=2 then 2 else 1)
 else if t=94 then (if o % 12=2 then 2 else if o % 12=11 then 2 else if o % 12 < 4 then 0 else if o % 12=10 then 0 else 1)
 else if t=109 then (if o % 23=2 then 2 else if o % 23 < 4 then 0 else if o % 23=22 then 0 else 1)
 else if t=158 then (if o % 8=0 then 0 else if o % 8=1 then 2 else 1)
 else if t=131 then (if o % 37=3 then 2 else if o % 37=5 then 2 else if o % 37 < 7 then 0 else 1)
 else if t=135 then (if o % 11=2 then 2 else if o % 11=4 then 2 else if o % 11 < 5 then 0 else 1)
 else 1
def G9(t o:Nat):Nat:=
 if t=35 then (o+5) % 6
 else if t=50 then (o % 7+5) % 6
 else if t=92 then (o % 7+5) % 6
 else if t=66 then (o % 51+3) % 6
 else if t=94 then (o % 12+2) % 6
 else if t=109 then (o % 23+2) % 6
 else if t=158 then (o % 8+4) % 6
 else if t=131 then (o % 37+5) % 6
 else if t=135 then (o % 11+1) % 6
 else o % 6
def Gw(w:World)(b o:Nat):Prop:=∃t,Ty w b t∧∀j,j < 6->FD t (o+j)=1∧G9 t (o+j)=j
theorem Gw.uniq{w:World}{b o e j j':Nat}(h:Gw w b o)(g:Gw w b e)(l:j < 6)(a:j' < 6)(f:o+j=e+j'):j=j'∧o=e:=by
 obtain ⟨t,h1,h2⟩:=h
 obtain ⟨m,d,c⟩:=g
 obtain rfl:=h1.inj d
 have i:=(h2 j l).2
 have k:=(c j' a).2
 rw[f,k] at i
 omega
def Qa(w:World)(b o:Nat):Prop:=∃t,Ty w b t∧FD t o=0∧FD t (o+1)=2
def Oo(w:World)(b o:Nat):Prop:=∃t,Ty w b t∧FD t o=0
def Eg{α:Type}(N:NP)(w:World)(t sz:Nat)(P:Nat->Nat->Nat->α->Prop)(h:Aw)(l:List α):Prop:=
 h.n=l.length∧l.length<=140737488355328∧∀i (hi:i < l.length),∃g,h.a=some ⟨g,0,none⟩∧N g∧Ty w g t∧P i g (i*sz) l[i]
theorem Eg.ok{α:Type}{N:NP}{w:World}{t sz:Nat}{P:Nat->Nat->Nat->α->Prop}{h:Aw}{l:List α}(hr:Eg N w t sz P h l):h.ok:=by
 obtain ⟨h1,h2,h3⟩:=hr
 refine ⟨by omega,fun a=>?_⟩
 obtain ⟨g,g1,_⟩:=h3 0 (by omega)
 exact ⟨g,0,g1⟩
theorem Eg.map{α:Type}{N:NP}{w w':World}{t sz:Nat}{P e:Nat->Nat->Nat->α->Prop}{h:Aw}{l:List α}{f:Nat->α->α}(hr:Eg N w t sz P h l)(m:∀b,N b->Ty w b t->Ty w' b t)(j:∀i g d,N g->Ty w g t->P i g (i*sz) d->e i g (i*sz) (f i d)):Eg N w' t sz e h (l.mapIdx f):=by
 obtain ⟨h1,h2,h3⟩:=hr
 refine ⟨by rw[List.length_mapIdx];exact h1,by rw[List.length_mapIdx];exact h2,fun i hi=>?_⟩
 rw[List.length_mapIdx] at hi
 obtain ⟨g,g1,a,c,k⟩:=h3 i hi
 refine ⟨g,g1,a,m g a c,?_⟩
 rw[List.getElem_mapIdx]
 exact j i g _ a c k
section
variable(N:NP)(E:Int->Ex->Nat->Nat->Prop)(R:Int->Rf->Nat->Nat->Prop)(w:World)
def KY(s:ByteArray)(g o:Nat):Prop:=s.size<=maxLen∧w.cell? ⟨g,o,none⟩=some (.string s)
def WW(i g o:Nat)(d:F9):Prop:=KY w d.name g o∧E (1+(i:Int)) d.value g (o+1)
def Wc(_ g o:Nat)(d:DO):Prop:=KY w d.name g o∧E 0 d.need g (o+1)
def TE(i g o:Nat)(d:AE):Prop:=KY w d.name g o∧R (if i=0 then 0 else 6) d.frm g (o+1)∧E 0 d.delay g (o+3)∧E 0 d.cap g (o+9)∧E 0 d.bank g (o+15)∧E 0 d.siphon g (o+21)∧E 0 d.evap0 g (o+27)∧E 0 d.evap1 g (o+33)∧E 0 d.seep0 g (o+39)∧E 0 d.seep1 g (o+45)
def Wd(_ g o:Nat)(d:CY):Prop:=KY w d.name g o∧R 4 d.on g (o+1)∧w.cell? ⟨g,o+3,none⟩=some (.bool d.river)∧E 0 d.area g (o+4)∧R (if d.river then 0 else 3) d.crop g (o+10)
def We(_ g o:Nat)(d:Cs):Prop:=R 5 d.farm g o∧E 0 d.len g (o+2)
def Wr(h:Nat->Aw)(i g o:Nat)(d:BG):Prop:=KY w d.name g o∧R 4 d.on g (o+1)∧w.cell? ⟨g,o+3,none⟩=some (.int .i64 d.rank)∧E 0 d.flow g (o+4)∧E 0 d.frm g (o+10)∧E 0 d.to g (o+16)∧w.cell? ⟨g,o+22,none⟩=some (h i).v∧Eg N w 158 8 (We E R) (h i) d.turns
def TF(_ g o:Nat)(d:AZ):Prop:=w.cell? ⟨g,o,none⟩=some (.int .i64 d.kind)∧KY w d.name g (o+1)∧R 5 d.farm g (o+2)∧R (if d.kind=1 then 0 else 4) d.reach g (o+4)∧w.cell? ⟨g,o+6,none⟩=some (.int .i64 d.rank)∧E 0 d.flow g (o+7)∧E 0 d.frm g (o+13)∧E 0 d.to g (o+19)∧E 0 d.every g (o+25)∧E 0 d.len g (o+31)
def Wf(_ g o:Nat)(d:D9):Prop:=KY w d.name g o∧R 5 d.farm g (o+1)∧R 4 d.reach g (o+3)∧E 0 d.due g (o+5)
structure Cb (L:Bt) (x:Ar):Prop where
 ty:Ty w L.s 35
 name:KY w x.name L.s 0
 season:E 0 x.season L.s 1
 cap:E 0 x.cap L.s 7
 start:E 0 x.start L.s 13
 hlets:w.cell? ⟨L.s,19,none⟩=some L.lets.v
 hcrops:w.cell? ⟨L.s,20,none⟩=some L.crops.v
 hreaches:w.cell? ⟨L.s,21,none⟩=some L.reaches.v
 hfarms:w.cell? ⟨L.s,22,none⟩=some L.farms.v
 hrots:w.cell? ⟨L.s,23,none⟩=some L.rots.v
 hrights:w.cell? ⟨L.s,24,none⟩=some L.rights.v
 hduties:w.cell? ⟨L.s,25,none⟩=some L.duties.v
 lets:Eg N w 50 7 (WW E w) L.lets x.lets
 crops:Eg N w 92 7 (Wc E w) L.crops x.crops
 reaches:Eg N w 66 51 (TE E R w) L.reaches x.reaches
 farms:Eg N w 94 12 (Wd E R w) L.farms x.farms
 rots:Eg N w 109 23 (Wr N E R w (A2 L)) L.rots x.rots
 rights:Eg N w 131 37 (TF E R w) L.rights x.rights
 duties:Eg N w 135 11 (Wf E R w) L.duties x.duties
end
section
variable(f:Int->Ex->Ex)(g:Int->Rf->Rf)
def F9.mp(i:Nat)(d:F9):F9:={d with value:=f (1+(i:Int)) d.value}
def DO.mp(_:Nat)(d:DO):DO:={d with need:=f 0 d.need}
def AE.mp(i:Nat)(d:AE):AE:={d with frm:=g (if i=0 then 0 else 6) d.frm,delay:=f 0 d.delay,cap:=f 0 d.cap,bank:=f 0 d.bank,siphon:=f 0 d.siphon,evap0:=f 0 d.evap0,evap1:=f 0 d.evap1,seep0:=f 0 d.seep0,seep1:=f 0 d.seep1}
def CY.mp(_:Nat)(d:CY):CY:={d with on:=g 4 d.on,area:=f 0 d.area,crop:=g (if d.river then 0 else 3) d.crop}
def Cs.mp(_:Nat)(d:Cs):Cs:={farm:=g 5 d.farm,len:=f 0 d.len}
def BG.mp(_:Nat)(d:BG):BG:={d with on:=g 4 d.on,flow:=f 0 d.flow,frm:=f 0 d.frm,to:=f 0 d.to,turns:=d.turns.mapIdx (Cs.mp f g)}
def AZ.mp(_:Nat)(d:AZ):AZ:={d with farm:=g 5 d.farm,reach:=g (if d.kind=1 then 0 else 4) d.reach,flow:=f 0 d.flow,frm:=f 0 d.frm,to:=f 0 d.to,every:=f 0 d.every,len:=f 0 d.len}
def D9.mp(_:Nat)(d:D9):D9:={d with farm:=g 5 d.farm,reach:=g 4 d.reach,due:=f 0 d.due}
def Ar.mp(x:Ar):Ar:=
 {x with season:=f 0 x.season,cap:=f 0 x.cap,start:=f 0 x.start,lets:=x.lets.mapIdx (F9.mp f),crops:=x.crops.mapIdx (DO.mp f),reaches:=x.reaches.mapIdx (AE.mp f g),farms:=x.farms.mapIdx (CY.mp f g),rots:=x.rots.mapIdx (BG.mp f g),rights:=x.rights.mapIdx (AZ.mp f g),duties:=x.duties.mapIdx (D9.mp f g)}
end
def Qb(t sz:Nat):Prop:=(t=50∧sz=7)∨(t=92∧sz=7)∨(t=66∧sz=51)∨(t=94∧sz=12)∨(t=109∧sz=23)∨(t=158∧sz=8)∨(t=131∧sz=37)∨(t=135∧sz=11)
theorem Da{t sz:Nat}(h:Qb t sz)(i c:Nat):FD t (i*sz+c)=FD t c∧G9 t (i*sz+c)=G9 t c:=by
 rcases h with ⟨rfl,rfl⟩|⟨rfl,rfl⟩|⟨rfl,rfl⟩|⟨rfl,rfl⟩|⟨rfl,rfl⟩|⟨rfl,rfl⟩|⟨rfl,rfl⟩|⟨rfl,rfl⟩
 ·have e:(i*7+c) % 7=c % 7:=by omega
  simp[FD,G9,e]
 ·have e:(i*7+c) % 7=c % 7:=by omega
  simp[FD,G9,e]
 ·have e:(i*51+c) % 51=c % 51:=by omega
  simp[FD,G9,e]
 ·have e:(i*12+c) % 12=c % 12:=by omega
  simp[FD,G9,e]
 ·have e:(i*23+c) % 23=c % 23:=by omega
  simp[FD,G9,e]
 ·have e:(i*8+c) % 8=c % 8:=by omega
  simp[FD,G9,e]
 ·have e:(i*37+c) % 37=c % 37:=by omega
  simp[FD,G9,e]
 ·have e:(i*11+c) % 11=c % 11:=by omega
  simp[FD,G9,e]
theorem Be{w:World}{g t sz:Nat}(h:Ty w g t)(hr:Qb t sz)(i c:Nat)(h1:∀j,j < 6->FD t (c+j)=1∧G9 t (c+j)=j):Gw w g (i*sz+c):=
 ⟨t,h,fun j a=>by rw[zS,(Da hr i (c+j)).1,(Da hr i (c+j)).2];exact h1 j a⟩
theorem DF{w:World}{g t sz:Nat}(h:Ty w g t)(hr:Qb t sz)(i c:Nat)(h1:FD t c=0):Oo w g (i*sz+c):=⟨t,h,by rw[(Da hr i c).1];exact h1⟩
theorem Ep{w:World}{g t sz:Nat}(h:Ty w g t)(hr:Qb t sz)(i:Nat)(h1:FD t 0=0):Oo w g (i*sz):=DF h hr i 0 h1
theorem BM{w:World}{g t sz:Nat}(h:Ty w g t)(hr:Qb t sz)(i c:Nat)(h1:FD t c=0)(h2:FD t (c+1)=2):Qa w g (i*sz+c):=
 ⟨t,h,by rw[(Da hr i c).1];exact h1,by rw[zS,(Da hr i (c+1)).1];exact h2⟩
theorem MG{w:World}{g t sz:Nat}(h:Ty w g t)(hr:Qb t sz)(i:Nat)(h1:FD t 0=0)(h2:FD t 1=2):Qa w g (i*sz):=BM h hr i 0 h1 h2
theorem TG:Qb 50 7:=.inl ⟨rfl,rfl⟩
theorem Qc:Qb 92 7:=.inr (.inl ⟨rfl,rfl⟩)
theorem BU:Qb 66 51:=.inr (.inr (.inl ⟨rfl,rfl⟩))
theorem Fg:Qb 94 12:=.inr (.inr (.inr (.inl ⟨rfl,rfl⟩)))
theorem FE:Qb 109 23:=.inr (.inr (.inr (.inr (.inl ⟨rfl,rfl⟩))))
theorem KZ:Qb 158 8:=.inr (.inr (.inr (.inr (.inr (.inl ⟨rfl,rfl⟩)))))
theorem BV:Qb 131 37:=.inr (.inr (.inr (.inr (.inr (.inr (.inl ⟨rfl,rfl⟩))))))
theorem Gx:Qb 135 11:=.inr (.inr (.inr (.inr (.inr (.inr (.inr ⟨rfl,rfl⟩))))))
section
variable{N:NP}{E E':Int->Ex->Nat->Nat->Prop}{R R':Int->Rf->Nat->Nat->Prop}{w w':World}{f:Int->Ex->Ex}{g:Int->Rf->Rf}
theorem KY.same{s:ByteArray}{b o:Nat}(h:KY w s b o)(a:w'.cell? ⟨b,o,none⟩=w.cell? ⟨b,o,none⟩):KY w' s b o:=⟨h.1,a.trans h.2⟩
theorem Cb.map{L:Bt}{x:Ar}(h:Cb N E R w L x)(k:∀b t,(N b∨b=L.s)->Ty w b t->Ty w' b t)(c:∀b o,(N b∨b=L.s)->Oo w b o->w'.cell? ⟨b,o,none⟩=w.cell? ⟨b,o,none⟩)
 (a:∀lt e b o,(N b∨b=L.s)->Gw w b o->E lt e b o->E' lt (f lt e) b o)(hr:∀to r b o,(N b∨b=L.s)->Qa w b o->R to r b o->R' to (g to r) b o):Cb N E' R' w' L (x.mp f g):=by
 have l:∀o,FD 35 o=0->w'.cell? (aV L.s o)=w.cell? (aV L.s o):=fun o u=>c _ _ (.inr rfl) ⟨_,h.ty,u⟩
 have z:∀lt e o,(∀j,j < 6->FD 35 (o+j)=1∧G9 35 (o+j)=j)->E lt e L.s o->E' lt (f lt e) L.s o:=fun lt e o u=>a lt e _ _ (.inr rfl) ⟨_,h.ty,u⟩
 refine ⟨k _ _ (.inr rfl) h.ty,h.name.same (l 0 rfl),z _ _ _ (by decide) h.season,z _ _ _ (by decide) h.cap,z _ _ _ (by decide) h.start,(l _ rfl).trans h.hlets,(l _ rfl).trans h.hcrops,(l _ rfl).trans h.hreaches,(l _ rfl).trans h.hfarms,(l _ rfl).trans h.hrots,(l _ rfl).trans h.hrights,(l _ rfl).trans h.hduties,?_,?_,?_,?_,?_,?_,?_⟩
 ·refine h.lets.map (fun b hb=>k b _ (.inl hb)) fun i b d hb ty ⟨h1,h2⟩=>?_
  exact ⟨h1.same (c _ _ (.inl hb) (Ep ty TG i rfl)),a _ _ _ _ (.inl hb) (Be ty TG i 1 (by decide)) h2⟩
 ·refine h.crops.map (fun b hb=>k b _ (.inl hb)) fun i b d hb ty ⟨h1,h2⟩=>?_
  exact ⟨h1.same (c _ _ (.inl hb) (Ep ty Qc i rfl)),a _ _ _ _ (.inl hb) (Be ty Qc i 1 (by decide)) h2⟩
 ·refine h.reaches.map (fun b hb=>k b _ (.inl hb)) fun i b d hb ty ⟨h1,h2,q,n,p,v,A,C,B,D⟩=>?_
  exact ⟨h1.same (c _ _ (.inl hb) (Ep ty BU i rfl)),hr _ _ _ _ (.inl hb) (BM ty BU i 1 rfl rfl) h2,
   a _ _ _ _ (.inl hb) (Be ty BU i 3 (by decide)) q,a _ _ _ _ (.inl hb) (Be ty BU i 9 (by decide)) n,a _ _ _ _ (.inl hb) (Be ty BU i 15 (by decide)) p,a _ _ _ _ (.inl hb) (Be ty BU i 21 (by decide)) v,
   a _ _ _ _ (.inl hb) (Be ty BU i 27 (by decide)) A,a _ _ _ _ (.inl hb) (Be ty BU i 33 (by decide)) C,a _ _ _ _ (.inl hb) (Be ty BU i 39 (by decide)) B,a _ _ _ _ (.inl hb) (Be ty BU i 45 (by decide)) D⟩
 ·refine h.farms.map (fun b hb=>k b _ (.inl hb)) fun i b d hb ty ⟨h1,h2,h3,m,y⟩=>?_
  exact ⟨h1.same (c _ _ (.inl hb) (Ep ty Fg i rfl)),hr _ _ _ _ (.inl hb) (BM ty Fg i 1 rfl rfl) h2,(c _ _ (.inl hb) (DF ty Fg i 3 rfl)).trans h3,
   a _ _ _ _ (.inl hb) (Be ty Fg i 4 (by decide)) m,hr _ _ _ _ (.inl hb) (BM ty Fg i 10 rfl rfl) y⟩
 ·refine h.rots.map (fun b hb=>k b _ (.inl hb)) fun i b d hb ty ⟨h1,h2,h3,q,n,p,m,y⟩=>?_
  refine ⟨h1.same (c _ _ (.inl hb) (Ep ty FE i rfl)),hr _ _ _ _ (.inl hb) (BM ty FE i 1 rfl rfl) h2,(c _ _ (.inl hb) (DF ty FE i 3 rfl)).trans h3,
   a _ _ _ _ (.inl hb) (Be ty FE i 4 (by decide)) q,a _ _ _ _ (.inl hb) (Be ty FE i 10 (by decide)) n,a _ _ _ _ (.inl hb) (Be ty FE i 16 (by decide)) p,(c _ _ (.inl hb) (DF ty FE i 22 rfl)).trans m,?_⟩
  refine y.map (fun b hb=>k b _ (.inl hb)) fun i b d hb ty ⟨h1,h2⟩=>?_
  exact ⟨hr _ _ _ _ (.inl hb) (MG ty KZ i rfl rfl) h1,a _ _ _ _ (.inl hb) (Be ty KZ i 2 (by decide)) h2⟩
 ·refine h.rights.map (fun b hb=>k b _ (.inl hb)) fun i b d hb ty ⟨h0,h1,h2,h3,m,q,n,p,v,A⟩=>?_
  exact ⟨(c _ _ (.inl hb) (Ep ty BV i rfl)).trans h0,h1.same (c _ _ (.inl hb) (DF ty BV i 1 rfl)),hr _ _ _ _ (.inl hb) (BM ty BV i 2 rfl rfl) h2,hr _ _ _ _ (.inl hb) (BM ty BV i 4 rfl rfl) h3,
   (c _ _ (.inl hb) (DF ty BV i 6 rfl)).trans m,a _ _ _ _ (.inl hb) (Be ty BV i 7 (by decide)) q,a _ _ _ _ (.inl hb) (Be ty BV i 13 (by decide)) n,a _ _ _ _ (.inl hb) (Be ty BV i 19 (by decide)) p,a _ _ _ _ (.inl hb) (Be ty BV i 25 (by decide)) v,a _ _ _ _ (.inl hb) (Be ty BV i 31 (by decide)) A⟩
 ·refine h.duties.map (fun b hb=>k b _ (.inl hb)) fun i b d hb ty ⟨h1,h2,h3,m⟩=>?_
  exact ⟨h1.same (c _ _ (.inl hb) (Ep ty Gx i rfl)),hr _ _ _ _ (.inl hb) (BM ty Gx i 1 rfl rfl) h2,hr _ _ _ _ (.inl hb) (BM ty Gx i 3 rfl rfl) h3,a _ _ _ _ (.inl hb) (Be ty Gx i 5 (by decide)) m⟩
end
def WM(N:NP)(E:Int->Ex->Nat->Nat->Prop)(w:World)(a:Array Value)(e:Kc):Prop:=∃b o,a=#[.pointer (some ⟨b,o,none⟩),.int .i64 e.2]∧N b∧Gw w b o∧E e.2 e.1 b o
section
variable{N:NP}{E:Int->Ex->Nat->Nat->Prop}{R:Int->Rf->Nat->Nat->Prop}{w:World}
theorem CE{h:Aw}{g sz i b t:Nat}{e:Ex}{lt:Int}(c:h.a=some ⟨g,0,none⟩)(hN:N g)(ty:Ty w g t)(hr:Qb t sz)(h1:∀j,j < 6->FD t (b+j)=1∧G9 t (b+j)=j)(d:E lt e g (i*sz+b)):WM N E w #[h.ptr sz i b,.int .i64 lt] (e,lt):=
 ⟨g,i*sz+b,by unfold Aw.ptr;rw[AQ c,yy],hN,Be ty hr i b h1,d⟩
theorem Cb.all2{L:Bt}{x:Ar}(h:Cb N E R w L x)(hs:N L.s):AD (WM N E w) (BK L) (As x):=by
 refine AD.append ?_ (AD.append ?_ (AD.append ?_ (AD.append ?_ (AD.append ?_ (AD.append ?_ (AD.append ?_ ?_))))))
 ·exact ⟨⟨L.s,1,rfl,hs,⟨_,h.ty,by decide⟩,h.season⟩,⟨L.s,7,rfl,hs,⟨_,h.ty,by decide⟩,h.cap⟩,⟨L.s,13,rfl,hs,⟨_,h.ty,by decide⟩,h.start⟩,trivial⟩
 ·obtain ⟨h1,h2,h3⟩:=h.lets
  refine B6 _ (fun i (d:F9)=> [(d.value,1+(i:Int))]) x.lets _ h1 fun i hi=>?_
  obtain ⟨g,g1,a,ty,m,f⟩:=h3 i hi
  exact ⟨CE g1 a ty TG (by decide) f,trivial⟩
 ·obtain ⟨h1,h2,h3⟩:=h.crops
  refine B6 _ (fun i (d:DO)=> [(d.need,0)]) x.crops _ h1 fun i hi=>?_
  obtain ⟨g,g1,a,ty,m,f⟩:=h3 i hi
  exact ⟨CE g1 a ty Qc (by decide) f,trivial⟩
 ·obtain ⟨h1,h2,h3⟩:=h.reaches
  refine B6 _ (fun i (d:AE)=> [(d.delay,0),(d.cap,0),(d.bank,0),(d.siphon,0),(d.evap0,0),(d.evap1,0),(d.seep0,0),(d.seep1,0)]) x.reaches _ h1 fun i hi=>?_
  obtain ⟨g,g1,a,ty,m,f,b,c,e,j,l,q,n,r⟩:=h3 i hi
  exact ⟨CE g1 a ty BU (by decide) b,CE g1 a ty BU (by decide) c,CE g1 a ty BU (by decide) e,CE g1 a ty BU (by decide) j,CE g1 a ty BU (by decide) l,CE g1 a ty BU (by decide) q,CE g1 a ty BU (by decide) n,CE g1 a ty BU (by decide) r,trivial⟩
 ·obtain ⟨h1,h2,h3⟩:=h.farms
  refine B6 _ (fun i (d:CY)=> [(d.area,0)]) x.farms _ h1 fun i hi=>?_
  obtain ⟨g,g1,a,ty,_,_,_,b,_⟩:=h3 i hi
  exact ⟨CE g1 a ty Fg (by decide) b,trivial⟩
 ·obtain ⟨h1,h2,h3⟩:=h.rots
  refine B6 _ (fun i (d:BG)=> [(d.flow,0),(d.frm,0),(d.to,0)]++Ek d.turns) x.rots _ h1 fun i hi=>?_
  obtain ⟨g,g1,a,ty,_,_,_,b,c,e,_,o,u,t⟩:=h3 i hi
  refine AD.append ⟨CE g1 a ty FE (by decide) b,CE g1 a ty FE (by decide) c,CE g1 a ty FE (by decide) e,trivial⟩ ?_
  refine B6 _ (fun k (d:Cs)=> [(d.len,0)]) (x.rots[i]).turns _ o fun k p=>?_
  obtain ⟨g,g1,a,ty,_,b⟩:=t k p
  exact ⟨CE g1 a ty KZ (by decide) b,trivial⟩
 ·obtain ⟨h1,h2,h3⟩:=h.rights
  refine B6 _ (fun i (d:AZ)=> [(d.flow,0),(d.frm,0),(d.to,0),(d.every,0),(d.len,0)]) x.rights _ h1 fun i hi=>?_
  obtain ⟨g,g1,a,ty,_,_,_,_,_,b,c,e,j,l⟩:=h3 i hi
  exact ⟨CE g1 a ty BV (by decide) b,CE g1 a ty BV (by decide) c,CE g1 a ty BV (by decide) e,CE g1 a ty BV (by decide) j,CE g1 a ty BV (by decide) l,trivial⟩
 ·obtain ⟨h1,h2,h3⟩:=h.duties
  refine B6 _ (fun i (d:D9)=> [(d.due,0)]) x.duties _ h1 fun i hi=>?_
  obtain ⟨g,g1,a,ty,_,_,_,b⟩:=h3 i hi
  exact ⟨CE g1 a ty Gx (by decide) b,trivial⟩
end
def EV(N:NP)(w:World)(_:Int)(e:Ex)(b o:Nat):Prop:=∃c,w.rangeAt b o c∧AI N w e c
def RV(w:World)(_:Int)(r:Rf)(b o:Nat):Prop:=r.name.size<=maxLen∧w.cell? ⟨b,o,none⟩=some (.string r.name)∧w.cell? ⟨b,o+1,none⟩=some (.int .i64 r.n)
theorem A6{w:World}{b o:Nat}{v:Value}{l:LV}(h:w.cell? ⟨b,o,none⟩=some v)(c:w.rangeAt b (o+1) l):w.rangeAt b o (v::l):=fun j u a=>by
 cases j with
 |zero=>simp at a;subst a;exact h
 |succ j=>have:=c j u (by simpa using a);rw[show o+(j+1)=o+1+j by omega];exact this
theorem IW{w:World}{b o:Nat}{l m:LV}(h:w.rangeAt b o l)(d:w.rangeAt b (o+l.length) m):w.rangeAt b o (l++m):=fun j u a=>by
 rcases zO j l.length with c|c
 ·rw[zk c] at a;exact h j u a
 ·rw[yN c] at a
  have:=d (j - l.length) u a
  rw[show o+l.length+(j - l.length)=o+j by omega] at this;exact this
theorem So(w:World)(b o:Nat):w.rangeAt b o []:=fun j u a=>by simp at a
theorem BW{w:World}{b o:Nat}{v:Value}(h:w.cell? ⟨b,o,none⟩=some v):w.rangeAt b o [v]:=A6 h (So _ _ _)
theorem MH{w:World}{to:Int}{r:Rf}{b o:Nat}(h:RV w to r b o):w.rangeAt b o (AU r):=A6 h.2.1 (BW h.2.2)
theorem Bh{w:World}{b o:Nat}{c l:LV}(d:c.length=6)(h:w.rangeAt b o c)(a:w.rangeAt b (o+6) l):w.rangeAt b o (c++l):=IW h (by rw[d];exact a)
theorem EJ{w:World}{to:Int}{r:Rf}{b o:Nat}{l:LV}(h:RV w to r b o)(a:w.rangeAt b (o+2) l):w.rangeAt b o (AU r++l):=IW (MH h) a
theorem Eg.isRow{α:Type}{N:NP}{w:World}{t sz:Nat}{P:Nat->Nat->Nat->α->Prop}{h:Aw}{l:List α}{Q:LV->α->Prop}(hr:Eg N w t sz P h l)(f:∀i g d,P i g (i*sz) d->∃cs,cs.length=sz∧w.rangeAt g (i*sz) cs∧Q cs d):BF N w sz Q h l:=by
 obtain ⟨h1,h2,h3⟩:=hr
 refine ⟨h1,h2,fun i hi=>?_⟩
 obtain ⟨g,g1,e,ty,c⟩:=h3 i hi
 obtain ⟨cs,b,j,a⟩:=f i g _ c
 exact ⟨g,0,cs,g1,e,b,by rw[yy];exact j,a⟩
theorem Cb.srcV{N:NP}{w:World}{L:Bt}{x:Ar}(h:Cb N (EV N w) (RV w) w L x):∃cs,cs.length=26∧w.rangeAt L.s 0 cs∧BH N w L cs x:=by
 obtain ⟨c0,e,a⟩:=h.season
 obtain ⟨c1,r1,v1⟩:=h.cap
 obtain ⟨c2,r2,v2⟩:=h.start
 have b:=a.len;have j:=v1.len;have f:=v2.len
 refine ⟨.string x.name::(c0++(c1++(c2++[L.lets.v,L.crops.v,L.reaches.v,L.farms.v,L.rots.v,L.rights.v,L.duties.v]))),by simp[b,j,f],?_,?_⟩
 ·exact A6 h.name.2 (Bh b e (Bh j r1 (Bh f r2 (A6 h.hlets (A6 h.hcrops (A6 h.hreaches (A6 h.hfarms (A6 h.hrots (A6 h.hrights (BW h.hduties))))))))))
 refine ⟨h.name.1,⟨c0,c1,c2,rfl,a,v1,v2⟩,?_,?_,?_,?_,?_,?_,?_⟩
 ·refine h.lets.isRow fun i g d ⟨h1,c0,e,a⟩=>?_
  have b:=a.len
  exact ⟨.string d.name::c0,by simp[b],A6 h1.2 e,h1.1,c0,rfl,a⟩
 ·refine h.crops.isRow fun i g d ⟨h1,c0,e,a⟩=>?_
  have b:=a.len
  exact ⟨.string d.name::c0,by simp[b],A6 h1.2 e,h1.1,c0,rfl,a⟩
 ·refine h.reaches.isRow fun i g d ⟨h1,c,⟨c0,e,a⟩,⟨c1,r1,v1⟩,⟨c2,r2,v2⟩,⟨c3,p,v3⟩,⟨c4,o,v4⟩,⟨c5,C,v5⟩,⟨c6,D,y⟩,⟨c7,B,t⟩⟩=>?_
  have b:=a.len;have j:=v1.len;have f:=v2.len;have m:=v3.len;have n:=v4.len;have u:=v5.len;have r:=y.len;have A:=t.len
  exact ⟨.string d.name::(AU d.frm++(c0++(c1++(c2++(c3++(c4++(c5++(c6++c7)))))))),by simp[Ay,b,j,f,m,n,u,r,A],
   A6 h1.2 (EJ c (Bh b e (Bh j r1 (Bh f r2 (Bh m p (Bh n o (Bh u C (Bh r D B)))))))),h1.1,c.1,c0,c1,c2,c3,c4,c5,c6,c7,rfl,a,v1,v2,v3,v4,v5,y,t⟩
 ·refine h.farms.isRow fun i g d ⟨h1,c,l,⟨c0,e,a⟩,k⟩=>?_
  have b:=a.len
  exact ⟨.string d.name::(AU d.on++(.bool d.river::(c0++AU d.crop))),by simp[Ay,b],A6 h1.2 (EJ c (A6 l (Bh b e (MH k)))),h1.1,c.1,k.1,c0,rfl,a⟩
 ·obtain ⟨h1,h2,h3⟩:=h.rots
  refine ⟨h1,h2,fun i hi=>?_⟩
  obtain ⟨g,g1,E,ty,q,c,l,⟨c0,e,a⟩,⟨c1,r1,v1⟩,⟨c2,r2,v2⟩,z,F⟩:=h3 i hi
  have b:=a.len;have j:=v1.len;have f:=v2.len
  refine ⟨g,0,.string (x.rots[i]).name::(AU (x.rots[i]).on++(iV (x.rots[i]).rank::(c0++(c1++(c2++[(A2 L i).v]))))),g1,E,by simp[Ay,b,j,f],?_,q.1,c.1,c0,c1,c2,rfl,a,v1,v2,?_⟩
  ·rw[yy]
   exact A6 q.2 (EJ c (A6 l (Bh b e (Bh j r1 (Bh f r2 (BW z))))))
  ·refine F.isRow fun i g d ⟨c,c0,e,a⟩=>?_
   have b:=a.len
   exact ⟨AU d.farm++c0,by simp[Ay,b],EJ c e,c.1,c0,rfl,a⟩
 ·refine h.rights.isRow fun i g d ⟨h0,h1,c,k,l,⟨c0,e,a⟩,⟨c1,r1,v1⟩,⟨c2,r2,v2⟩,⟨c3,p,v3⟩,⟨c4,o,v4⟩⟩=>?_
  have b:=a.len;have j:=v1.len;have f:=v2.len;have m:=v3.len;have n:=v4.len
  exact ⟨iV d.kind::.string d.name::(AU d.farm++(AU d.reach++(iV d.rank::(c0++(c1++(c2++(c3++c4))))))),by simp[Ay,b,j,f,m,n],
   A6 h0 (A6 h1.2 (EJ c (EJ k (A6 l (Bh b e (Bh j r1 (Bh f r2 (Bh m p o)))))))),h1.1,c.1,k.1,c0,c1,c2,c3,c4,rfl,a,v1,v2,v3,v4⟩
 ·refine h.duties.isRow fun i g d ⟨h1,c,k,⟨c0,e,a⟩⟩=>?_
  have b:=a.len
  exact ⟨.string d.name::(AU d.farm++(AU d.reach++c0)),by simp[Ay,b],A6 h1.2 (EJ c (EJ k e)),h1.1,c.1,k.1,c0,rfl,a⟩
theorem Ke{ops:Array Oper}{o:Oper}{a:Act}{K:Act->World->Prop}{Q:QT}{E:Prop}{W:World}{t e:TypeId}{r:TypeInfo}{z:Value}{size d:Nat}(T:Tryz.prog.underlying t=some (.slice e))(hi:Tryz.prog.info? e=some r)(J:r.zero=some z)(F:r.size=size)(P:r.bytes=d)(L:z.cells.size=size)(N:0 < size)(H:d<=10000)
 (B:Nat)(I:o.guard=none)(s x:Operand)(R:o.op=.call {callee:=.builtin .append,args:=#[s,x],argTypes:=#[t,t]})(v:Value)(n:Nat)(xs:LV)(hs:a.eval s=v)(f:W.ownsRow B e size v n xs)
 (X:Value)(m:Nat)(y:LV)(U:a.eval x=X)(Z:BL W X m size y)(q:n+m<=1000000)(l:B<=W.heap.size)
 (h:∀(A:Option Addr) (c:Nat) w',w'.ownsRow B e size (.slice A (n+m) c) (n+m) (xs++y)->W.grownBy w' v.ownBlock->K (a.put o.dst (.slice A (n+m) c)) w'):
  if Region.wanted o (yielded ops a.tmps)=true then Oper.wp Tryz.prog o a W K Q else E:=by
 have Y:Region.wanted o (yielded ops a.tmps)=true:=by simp[Region.wanted,I]
 rw[yw Y]
 obtain ⟨w,D,A,cap,rfl,k⟩:=Z
 by_cases V:m=0
 ·subst V
  obtain rfl:y=[]:=zv.1 (by simpa using w)
  have p:=EU T hi W B o.type v n xs f A cap
  obtain ⟨va,C,rfl⟩:∃a c,v=.slice a n c:=by
   rcases f.2 with ⟨rfl,O⟩|⟨g,cap,M,rfl,_⟩
   ·exact ⟨none,0,by rw[O]⟩
   ·exact ⟨_,_,rfl⟩
  unfold Oper.wp
  simp[execOp,R,resolve,invoke,builtin,hs,U,p,Result.andThen]
  have S:=h va C W (by simpa using f) ⟨rfl,rfl,rfl,yf _,fun _ _ _=>rfl⟩
  rw[qu] at S
  exact S
 ·obtain ⟨b,G,rfl,hb,hc⟩:=k.resolve_left V
  refine wp_append_own W s x t R B e r z size d T hi J F P L N v n xs hs f (aV b G) m cap y U w (fun j u hj=>?_) D (by unfold maxLen;omega) (by
   have:(n+m)*d<=1000000*10000:=qA q H
   omega) l ?_
  ·rw[zA];exact hc j u hj
  ·intro v' w' i hg _
   obtain ⟨va,C,rfl⟩:∃a c,v'=.slice a (n+m) c:=by
    rcases i.2 with ⟨rfl,O⟩|⟨g,cap,M,rfl,_⟩
    ·exact ⟨none,0,by rw[O]⟩
    ·exact ⟨_,_,rfl⟩
   exact h va C w' i hg
theorem IX{ops:Array Oper}{o:Oper}{a:Act}{rest:List Oper}{Q:QT}{W:World}{t e:TypeId}{j:TypeInfo}{z:Value}{size b:Nat}(H:Tryz.prog.underlying t=some (.slice e))(hi:Tryz.prog.info? e=some j)(q:j.zero=some z)(l:j.size=size)(y:j.bytes=b)(r:z.cells.size=size)(u:0 < size)(p:b<=10000)
 (B:Nat)(f:o.guard=none)(s x:Operand)(A:o.op=.call {callee:=.builtin .append,args:=#[s,x],argTypes:=#[t,t]})(v:Value)(n:Nat)(xs:LV)(hs:a.eval s=v)(g:W.ownsRow B e size v n xs)
 (X:Value)(m:Nat)(w:LV)(G:a.eval x=X)(D:BL W X m size w)(i:n+m<=1000000)(d:B<=W.heap.size)
 (h:∀(k:Option Addr) (c:Nat) w',w'.ownsRow B e size (.slice k (n+m) c) (n+m) (xs++w)->W.grownBy w' v.ownBlock->wpList Tryz.prog ops Q rest (a.put o.dst (.slice k (n+m) c)) w'):wpList Tryz.prog ops Q (o::rest) a W:=
 zB f fun K F=>by
  have C:=Ke (ops:=ops) (E:=True) (K:=K) (Q:=Q) H hi q l y r u p B f s x A v n xs hs g X m w G D i d (fun k c w' h1 h2=>F _ _ (h k c w' h1 h2))
  rwa [yw (by simp[Region.wanted,f])] at C
theorem Ga:∀(a:List LV) (sz:Nat),(∀cs∈a,cs.length=sz)->a.flatten.length=a.length*sz∧∀i (h:i < a.length) j,j < sz->a.flatten[i*sz+j]?=a[i][j]?
 |[],sz,_=>⟨by simp,fun i h=>by simp at h⟩
 |c::r,sz,h=>by
  obtain ⟨h1,h2⟩:=Ga r sz (fun cs b=>h cs (List.mem_cons_of_mem _ b))
  have b:=h c List.mem_cons_self
  refine ⟨by rw[zt,yn,h1,b,yz,Nat.add_mul];omega,fun i hi j d=>?_⟩
  cases i with
  |zero=>rw[zt,Nat.zero_mul,yy,zk (by omega)];rfl
  |succ i=>
   rw[zt,yN (by rw[b,Nat.add_mul];omega),b,show (i+1)*sz+j - sz=i*sz+j by rw[Nat.add_mul];omega]
   exact h2 i (by simpa using hi) j d
theorem Sp{α:Type}{N:NP}{w:World}{sz:Nat}{Q:LV->α->Prop}{h:Aw}{l:List α}(hr:BF N w sz Q h l)(hN:∀b,N b->b < w.heap.size)(m:∀cs d,Q cs d->∀v∈cs,v.oneCell'=true):
  ∃e:List LV,e.length=l.length∧(∀i (hi:i < e.length) (g:i < l.length),e[i].length=sz∧Q e[i] l[i])∧(∀cs∈e,cs.length=sz)∧BL w h.v h.n sz e.flatten:=by
 obtain ⟨h1,h2,h3⟩:=hr
 have t:∀i,∃cs:LV,∀(hi:i < l.length),cs.length=sz∧Q cs l[i]∧∃b o,h.a=some (aV b o)∧N b∧w.rangeAt b (o+i*sz) cs:=fun i=>by
  by_cases hi:i < l.length
  ·obtain ⟨b,o,cs,g1,K,J,I,H⟩:=h3 i hi
   exact ⟨cs,fun _=>⟨J,H,b,o,g1,K,I⟩⟩
  ·exact ⟨[],fun h=>absurd h hi⟩
 obtain ⟨F,k⟩:=Classical.axiomOfChoice t
 have s:((List.range l.length).map F).length=l.length:=by simp
 have B:∀i (hi:i < ((List.range l.length).map F).length),((List.range l.length).map F)[i]=F i:=fun i hi=>by simp
 have q:∀cs∈(List.range l.length).map F,cs.length=sz:=fun cs y=>by
  obtain ⟨i,hi,rfl⟩:=xJ.1 y
  exact (k i (zj.1 hi)).1
 obtain ⟨D,M⟩:=Ga _ sz q
 refine ⟨(List.range l.length).map F,s,fun i hi g=>by rw[B i hi];exact ⟨(k i g).1,(k i g).2.1⟩,q,⟨by rw[D,s,h1],fun u x=>?_,h.a,h.c,rfl,?_⟩⟩
 ·obtain ⟨cs,y,x⟩:=List.mem_flatten.1 x
  obtain ⟨i,hi,rfl⟩:=xJ.1 y
  exact m _ _ (k i (zj.1 hi)).2.1 u x
 ·by_cases h0:h.n=0
  ·exact .inl h0
  ·obtain ⟨_,_,b,o,C,hb,_⟩:=k 0 (by omega)
   refine .inr ⟨b,o,C,hN b hb,fun j u E=>?_⟩
   have r:=(yx.1 E).1
   rw[D,s] at r
   have f:0 < sz:=by
    rcases Nat.eq_zero_or_pos sz with h|h
    ·subst h;omega
    ·exact h
   have hi:j / sz < l.length:=(Nat.div_lt_iff_lt_mul f).2 r
   have L:j % sz < sz:=Nat.mod_lt _ f
   have G:j / sz*sz+j % sz=j:=by rw[Nat.mul_comm];exact Nat.div_add_mod j sz
   have A:=M (j / sz) (by rw[s];exact hi) (j % sz) L
   rw[G,E,B] at A
   obtain ⟨_,_,O,P,p,_,z⟩:=k (j / sz) hi
   rw[C] at p
   cases p
   have:=z (j % sz) u A.symm
   rw[show o+j / sz*sz+j % sz=o+j by omega] at this
   exact this
def Fh{α:Type}(w:World)(t sz:Nat)(Q:LV->α->Prop)(l:List α)(e:Ending)(w':World):Prop:=
 ∃h:Aw,e=.returned h.v∧h.n=l.length∧Below w.heap.size w w'∧∀i (hi:i < l.length),∃g cs,h.a=some ⟨g,0,none⟩∧w.heap.size<=g∧Ty w' g t∧cs.length=sz∧w'.rangeAt g (i*sz) cs∧Q cs l[i]
theorem Sq{α:Type}{w w1 w':World}{t sz:Nat}{Q:LV->α->Prop}{l:List α}{d:List LV}(J:d.length=l.length)(F:∀i (hi:i < d.length) (z:i < l.length),d[i].length=sz∧Q d[i] l[i])(r:∀cs∈d,cs.length=sz)
 {a:Option Addr}{n c:Nat}(D:n=l.length)(f:w'.ownsRow w.heap.size t sz (.slice a (0+n) c) (0+n) ([]++d.flatten))(hb:Below w.heap.size w w1)(k:w1.grownBy w' (some w.heap.size))(I:w.heap.size<=w1.heap.size):Fh w t sz Q l (.returned (.slice a (0+n) c)) w':=by
 rw[yy,yQ] at f
 refine ⟨⟨a,n,c⟩,by rw[yy];rfl,D,hb.trans ⟨k.os,k.tape,k.output,k.size,fun b C=>k.block b (by omega) (fun e=>by cases e;omega)⟩,fun i hi=>?_⟩
 obtain ⟨H,E⟩:=Ga d sz r
 have h:i < d.length:=by omega
 obtain ⟨x,B⟩:=F i h hi
 rcases f.2 with ⟨_,h0⟩|⟨g,cap,A,v,p,s,_,_,_,G⟩
 ·omega
 ·simp only[qi,qv] at v
  obtain ⟨rfl,rfl⟩:=v
  refine ⟨g,d[i],rfl,p,⟨_,s⟩,x,fun j u y=>?_,B⟩
  have m:=(yx.1 y).1
  rw[x] at m
  have o:=(E i h j m).trans y
  rw[<-G] at o
  have q:=(yx.1 o).1
  rw[zg] at q
  rw[xg,yw (by omega)] at o
  simp only[World.cell?,s]
  simpa using o
section
variable{N:NP}{w:World}
theorem Er(r:Rf):∀v∈AU r,v.oneCell'=true:=by intro v a;simp[AU] at a;rcases a with rfl|rfl<;>rfl
theorem BZ{v:Value}{l:LV}(h:v.oneCell'=true)(a:∀u∈l,u.oneCell'=true):∀u∈v::l,u.oneCell'=true:=fun u b=>(yO.1 b).elim (fun e=>e▸h) (a u)
theorem AG{l m:LV}(h:∀u∈l,u.oneCell'=true)(a:∀u∈m,u.oneCell'=true):∀u∈l++m,u.oneCell'=true:=fun u b=>(yv.1 b).elim (h u) (a u)
theorem BA{e:Ex}{c:LV}(h:AI N w e c):∀v∈c,v.oneCell'=true:=by
 obtain ⟨a,cap,rfl,_⟩:=h.cells
 intro v b
 simp at b
 rcases b with rfl|rfl|rfl|rfl|rfl|rfl<;>rfl
theorem Rp(cs:LV)(d:F9)(h:H7 N w cs d):∀v∈cs,v.oneCell'=true:=by
 obtain ⟨_,c,rfl,g⟩:=h;exact BZ rfl (BA g)
theorem Oq(cs:LV)(d:DO)(h:Il N w cs d):∀v∈cs,v.oneCell'=true:=by
 obtain ⟨_,c,rfl,g⟩:=h;exact BZ rfl (BA g)
theorem Js(cs:LV)(d:AE)(h:Fa N w cs d):∀v∈cs,v.oneCell'=true:=by
 obtain ⟨_,_,c0,c1,c2,c3,c4,c5,c6,c7,rfl,i,g1,g,e,c,b,a,f⟩:=h
 exact BZ rfl (AG (Er _) (AG (BA i) (AG (BA g1) (AG (BA g) (AG (BA e) (AG (BA c) (AG (BA b) (AG (BA a) (BA f)))))))))
theorem Ot(cs:LV)(d:CY)(h:Im N w cs d):∀v∈cs,v.oneCell'=true:=by
 obtain ⟨_,_,_,c,rfl,g⟩:=h;exact BZ rfl (AG (Er _) (BZ rfl (AG (BA g) (Er _))))
theorem TH(cs:LV)(d:Cs)(h:FA N w cs d):∀v∈cs,v.oneCell'=true:=by
 obtain ⟨_,c,rfl,g⟩:=h;exact AG (Er _) (BA g)
theorem Jt(cs:LV)(d:AZ)(h:Fb N w cs d):∀v∈cs,v.oneCell'=true:=by
 obtain ⟨_,_,_,c0,c1,c2,c3,c4,rfl,a,g1,e,b,c⟩:=h
 exact BZ rfl (BZ rfl (AG (Er _) (AG (Er _) (BZ rfl (AG (BA a) (AG (BA g1) (AG (BA e) (AG (BA b) (BA c)))))))))
theorem Ou(cs:LV)(d:D9)(h:Io N w cs d):∀v∈cs,v.oneCell'=true:=by
 obtain ⟨_,_,_,c,rfl,g⟩:=h;exact BZ rfl (AG (Er _) (AG (Er _) (BA g)))
end
theorem O1{T e:Nat}(f:Tryz.prog.underlying T=some (.slice e))(w:World)(a:Option Addr)(n c d b:Nat):(binOp .eql T (.slice a n c) (.slice none d b)).run Tryz.prog w=.ok (.bool a.isNone) w:=Lib.run_eql_slice_nil w _ _ a n c d b f
def FV(fn:Nat):Prop:=∀(w:World) (n c:Nat),Calls Tryz.prog fn #[.slice none n c] w fun e w'=>e=.returned (.slice none 0 0)∧w'=w
def FW(fn T sz:Nat):Prop:=∀(w:World) (a:Addr) (n c:Nat) (xs:LV) (b:TypeInfo) (z:Value),Tryz.prog.info? T=some b->b.zero=some z->b.size=sz->z.cells.size=sz->b.bytes<=10000->BL (w.alloc (.cells #[] T)) (.slice (some a) n c) n sz xs->(w.alloc (.cells #[] T)).ownsRow w.heap.size T sz (.slice (some ⟨w.heap.size,0,none⟩) 0 0) 0 []->0+n<=1000000->w.heap.size<=(w.alloc (.cells #[] T)).heap.size->
  Calls Tryz.prog fn #[.slice (some a) n c] w fun e w'=>∃d c2,e=.returned (.slice d (0+n) c2)∧w'.ownsRow w.heap.size T sz (.slice d (0+n) c2) (0+n) ([]++xs)∧(w.alloc (.cells #[] T)).grownBy w' (some w.heap.size)
theorem Dq{fn T sz:Nat}(f:((Tryz.prog.info? T).bind fun i=>i.zero.map fun z=>(i.size,z.cells.size,decide (i.bytes<=10000)))=some (sz,sz,true))(r:FV fn)(s:FW fn T sz){α:Type}{N:NP}{w:World}{Q:LV->α->Prop}{h:Aw}{l:List α}(hr:BF N w sz Q h l)(hN:∀b,N b->b < w.heap.size)(m:∀cs d,Q cs d->∀v∈cs,v.oneCell'=true)(L:l.length<=100000):
  Calls Tryz.prog fn #[h.v] w (Fh w T sz Q l):=by
 obtain ⟨y,D,J,A,g⟩:=Sp hr hN m
 have q:=hr.1
 obtain ⟨a,n,c⟩:=h
 unfold Aw.v at g ⊢
 simp only at q g
 cases a with
 |none=>
  have x:l.length=0:=by
   rcases Nat.eq_zero_or_pos l.length with h|h
   ·exact h
   ·obtain ⟨_,_,_,h1,_⟩:=hr.2.2 0 h;cases h1
  refine (r w n c).mono ?_
  rintro e w' ⟨rfl,rfl⟩
  exact ⟨⟨none,0,0⟩,rfl,x.symm,yg _ _,fun i hi=>by omega⟩
 |some a=>
  cases hi:Tryz.prog.info? T with
  |none=>simp[hi] at f
  |some i0=>
  cases t:i0.zero with
  |none=>simp[hi,t] at f
  |some z=>
  simp only[hi,t,xi,xx,yZ,zq,yT] at f
  have k:Below w.heap.size w (w.alloc (.cells #[] T)):=(yg _ _).alloc (yf _) _
  refine (s w a n c y.flatten i0 z hi t f.1 f.2.1 f.2.2 ?_ ⟨by simp,.inr ⟨w.heap.size,0,#[],rfl,yf _,World.alloc_heap_new _ _,yf _,yI _,by simp,by simp⟩⟩ (by omega) k.size).mono ?_
  ·obtain ⟨r1,r2,E,B,I,C⟩:=g
   refine ⟨r1,r2,E,B,I,C.imp id ?_⟩
   rintro ⟨b,o,e,hb,H⟩
   exact ⟨b,o,e,yt hb k.size,fun j u K=>(k.cell (p:=(aV b (o+j))) hb).trans (H j u K)⟩
  ·rintro e w' ⟨M,c2,rfl,F,G⟩
   exact Sq D J A q F k G k.size
theorem CS:FV 82∧FV 83∧FV 84∧FV 85∧FV 86∧FV 87∧FV 88∧FV 89∧FV 91:=by
 refine ⟨?_,?_,?_,?_,?_,?_,?_,?_,?_⟩
 all_goals
  intro w n c
  have e:=O1 qQ
  have h:=O1 qR
  have i:=O1 qS
  have f:=O1 qU
  have d:=O1 qV
  have a:=O1 qW
  have j:=O1 qX
  have g:=O1 qG
  have b:=O1 qO
  first|go_enter Tryz.func82,Tryz.ntmps82|go_enter Tryz.func83,Tryz.ntmps83|go_enter Tryz.func84,Tryz.ntmps84|go_enter Tryz.func85,Tryz.ntmps85|go_enter Tryz.func86,Tryz.ntmps86|go_enter Tryz.func87,Tryz.ntmps87|go_enter Tryz.func88,Tryz.ntmps88|go_enter Tryz.func89,Tryz.ntmps89|go_enter Tryz.func91,Tryz.ntmps91
  go_wp2
  go_ret
  exact ⟨rfl,rfl⟩
theorem CT:FW 82 50 7∧FW 83 92 7∧FW 84 66 51∧FW 85 94 12∧FW 86 109 23∧FW 87 131 37∧FW 88 135 11∧FW 89 158 8∧FW 91 26 6:=by
 refine ⟨?_,?_,?_,?_,?_,?_,?_,?_,?_⟩
 all_goals
  intro w a n c xs I z hi l h m j d e f q
  have A:=yb hi;have r:=yb l;have s:=yb h;have t:=yb m;have v:=yb j
  have k:=yb d;have g:=yb e;have p:=yb f;have u:=yb q
  clear hi l h m j d e f q
  have D:=O1 qQ
  have G:=O1 qR
  have M:=O1 qS
  have E:=O1 qU
  have L:=O1 qV
  have J:=O1 qW
  have C:=O1 qX
  have F:=O1 qG
  have K:=O1 qO
  first|go_enter Tryz.func82,Tryz.ntmps82|go_enter Tryz.func83,Tryz.ntmps83|go_enter Tryz.func84,Tryz.ntmps84|go_enter Tryz.func85,Tryz.ntmps85|go_enter Tryz.func86,Tryz.ntmps86|go_enter Tryz.func87,Tryz.ntmps87|go_enter Tryz.func88,Tryz.ntmps88|go_enter Tryz.func89,Tryz.ntmps89|go_enter Tryz.func91,Tryz.ntmps91
  go_wp2_with (first|(at_builtin;refine IX (by first|exact qQ|exact qR|exact qS|exact qU|exact qV|exact qW|exact qX|exact qG|exact qO) A.o r.o s.o rfl t.o (by decide) v.o w.heap.size rfl _ _ rfl (.slice (some (aV w.heap.size 0)) 0 0) 0 [] rfl g.o (.slice (some a) n c) n xs rfl k.o p.o u.o ?_;intro B c2 H b i;have y:=yb b;have x:=yb i;clear b i))
  go_ret
  exact ⟨B,c2,by simp,y.o,x.o⟩
theorem Sr{α:Type}{N:NP}{w:World}{Q:LV->α->Prop}{h:Aw}{l:List α}(hr:BF N w 7 Q h l)(hN:∀b,N b->b < w.heap.size)(a:∀cs d,Q cs d->∀v∈cs,v.oneCell'=true)(c:l.length<=100000):Calls Tryz.prog 82 #[h.v] w (Fh w 50 7 Q l):=Dq (by kernel_rfl) CS.1 CT.1 hr hN a c
theorem Qd{α:Type}{N:NP}{w:World}{Q:LV->α->Prop}{h:Aw}{l:List α}(hr:BF N w 7 Q h l)(hN:∀b,N b->b < w.heap.size)(a:∀cs d,Q cs d->∀v∈cs,v.oneCell'=true)(c:l.length<=100000):Calls Tryz.prog 83 #[h.v] w (Fh w 92 7 Q l):=Dq (by kernel_rfl) CS.2.1 CT.2.1 hr hN a c
theorem Ov{α:Type}{N:NP}{w:World}{Q:LV->α->Prop}{h:Aw}{l:List α}(hr:BF N w 51 Q h l)(hN:∀b,N b->b < w.heap.size)(a:∀cs d,Q cs d->∀v∈cs,v.oneCell'=true)(c:l.length<=100000):Calls Tryz.prog 84 #[h.v] w (Fh w 66 51 Q l):=Dq (by kernel_rfl) CS.2.2.1 CT.2.2.1 hr hN a c
theorem Qe{α:Type}{N:NP}{w:World}{Q:LV->α->Prop}{h:Aw}{l:List α}(hr:BF N w 12 Q h l)(hN:∀b,N b->b < w.heap.size)(a:∀cs d,Q cs d->∀v∈cs,v.oneCell'=true)(c:l.length<=100000):Calls Tryz.prog 85 #[h.v] w (Fh w 94 12 Q l):=Dq (by kernel_rfl) CS.2.2.2.1 CT.2.2.2.1 hr hN a c
theorem Ss{α:Type}{N:NP}{w:World}{Q:LV->α->Prop}{h:Aw}{l:List α}(hr:BF N w 23 Q h l)(hN:∀b,N b->b < w.heap.size)(a:∀cs d,Q cs d->∀v∈cs,v.oneCell'=true)(c:l.length<=100000):Calls Tryz.prog 86 #[h.v] w (Fh w 109 23 Q l):=Dq (by kernel_rfl) CS.2.2.2.2.1 CT.2.2.2.2.1 hr hN a c
theorem Ow{α:Type}{N:NP}{w:World}{Q:LV->α->Prop}{h:Aw}{l:List α}(hr:BF N w 37 Q h l)(hN:∀b,N b->b < w.heap.size)(a:∀cs d,Q cs d->∀v∈cs,v.oneCell'=true)(c:l.length<=100000):Calls Tryz.prog 87 #[h.v] w (Fh w 131 37 Q l):=Dq (by kernel_rfl) CS.2.2.2.2.2.1 CT.2.2.2.2.2.1 hr hN a c
theorem Qf{α:Type}{N:NP}{w:World}{Q:LV->α->Prop}{h:Aw}{l:List α}(hr:BF N w 11 Q h l)(hN:∀b,N b->b < w.heap.size)(a:∀cs d,Q cs d->∀v∈cs,v.oneCell'=true)(c:l.length<=100000):Calls Tryz.prog 88 #[h.v] w (Fh w 135 11 Q l):=Dq (by kernel_rfl) CS.2.2.2.2.2.2.1 CT.2.2.2.2.2.2.1 hr hN a c
theorem Qg{α:Type}{N:NP}{w:World}{Q:LV->α->Prop}{h:Aw}{l:List α}(hr:BF N w 8 Q h l)(hN:∀b,N b->b < w.heap.size)(a:∀cs d,Q cs d->∀v∈cs,v.oneCell'=true)(c:l.length<=100000):Calls Tryz.prog 89 #[h.v] w (Fh w 158 8 Q l):=Dq (by kernel_rfl) CS.2.2.2.2.2.2.2.1 CT.2.2.2.2.2.2.2.1 hr hN a c
theorem Qh{α:Type}{N:NP}{w:World}{Q:LV->α->Prop}{h:Aw}{l:List α}(hr:BF N w 6 Q h l)(hN:∀b,N b->b < w.heap.size)(a:∀cs d,Q cs d->∀v∈cs,v.oneCell'=true)(c:l.length<=100000):Calls Tryz.prog 91 #[h.v] w (Fh w 26 6 Q l):=Dq (by kernel_rfl) CS.2.2.2.2.2.2.2.2 CT.2.2.2.2.2.2.2.2 hr hN a c
mutual
def Ih(w:World)(B:NP):Ex->LV->Prop
 |.mk op n u rn ri args,cs=>∃a cap,cs=[.int .i64 op,.int .i64 n,.int .i64 u,.string rn,.int .i64 ri,.slice a args.length cap]∧args.length<=140737488355328∧rn.size<=maxLen∧DM w B a 0 args
def DM(w:World)(B:NP)(a:Option Addr):Nat->List Ex->Prop
 |_,[]=>True
 |i,e::r=>(∃g cs,a=some ⟨g,0,none⟩∧B g∧Ty w g 26∧w.rangeAt g (i*6) cs∧Ih w B e cs)∧DM w B a (i+1) r
end
theorem Rq{w:World}{B:NP}{a:Option Addr}:∀ {l:List Ex} {k:Nat},(∀i (h:i < l.length),∃g cs,a=some ⟨g,0,none⟩∧B g∧Ty w g 26∧w.rangeAt g ((k+i)*6) cs∧Ih w B l[i] cs)->DM w B a k l
 |[],_,_=>by rw[DM];trivial
 |e::r,k,h=>by
  rw[DM]
  refine ⟨h 0 (by simp),Rq fun i hi=>?_⟩
  obtain ⟨g,cs,h1,h2,h3,c,b⟩:=h (i+1) (by simpa using hi)
  exact ⟨g,cs,h1,h2,h3,by rw[show k+1+i=k+(i+1) by omega];exact c,by simpa using b⟩
theorem Ty.same{w w':World}{b t:Nat}(h:Ty w b t)(hb:w'.heap[b]?=w.heap[b]?):Ty w' b t:=by
 obtain ⟨c,e⟩:=h
 exact ⟨c,hb.trans e⟩
mutual
theorem Ih.same{w w':World}{B c:NP}(f:∀b,B b->b < w.heap.size->c b)(hb:∀b,B b->b < w.heap.size->w'.heap[b]?=w.heap[b]?):∀ {e:Ex} {cs:LV},Ih w B e cs->Ih w' c e cs
 |.mk _ _ _ _ _ args,_,h=>by
  rw[Ih] at h ⊢
  obtain ⟨a,cap,h1,h2,h3,d⟩:=h
  exact ⟨a,cap,h1,h2,h3,DM.same f hb d⟩
theorem DM.same{w w':World}{B d:NP}(c:∀b,B b->b < w.heap.size->d b){a:Option Addr}(hb:∀b,B b->b < w.heap.size->w'.heap[b]?=w.heap[b]?):∀ {l:List Ex} {k:Nat},DM w B a k l->DM w' d a k l
 |[],_,h=>by rw[DM];trivial
 |e::r,k,h=>by
  rw[DM] at h ⊢
  obtain ⟨⟨g,cs,h1,h2,h3,j,i⟩,f⟩:=h
  exact ⟨⟨g,cs,h1,c g h2 h3.lt,h3.same (hb g h2 h3.lt),A0 j (hb g h2 h3.lt),Ih.same c hb i⟩,DM.same c hb f⟩
end
theorem Ih.mk'{w:World}{B:NP}{e:Ex}{a:Option Addr}{cap:Nat}(h1:e.args.length<=140737488355328)(h2:e.rn.size<=maxLen)(h3:DM w B a 0 e.args):
  Ih w B e [.int .i64 e.op,.int .i64 e.n,.int .i64 e.u,.string e.rn,.int .i64 e.ri,.slice a e.args.length cap]:=by
 cases e
 rw[Ih]
 exact ⟨a,cap,rfl,h1,h2,h3⟩
def Xq(W:World)(b o:Nat)(args:List Ex)(w':World):Prop:=
 W.grownBy w' (some b)∧(∀p,p≠o+5->w'.cell? ⟨b,p,none⟩=W.cell? ⟨b,p,none⟩)∧(∀t,Ty W b t->Ty w' b t)∧∃a cap,w'.cell? ⟨b,o+5,none⟩=some (.slice a args.length cap)∧DM w' (fun b=>W.heap.size<=b) a 0 args
mutual
def Dt:Ex->Prop
 |.mk _ _ _ _ _ args=>args.length<=100000∧EK args
def EK:List Ex->Prop
 |[]=>True
 |e::r=>Dt e∧EK r
end
theorem MI:∀ {l:List Ex},EK l->∀i (h:i < l.length),Dt l[i]
 |[],_,i,h=>by simp at h
 |e::r,hl,0,_=>by rw[EK] at hl;exact hl.1
 |e::r,hl,i+1,h=>by rw[EK] at hl;exact MI hl.2 i (by simpa using h)
theorem IY{W w':World}{b c p:Nat}(h:W.grownBy w' (some b))(d:c < W.heap.size)(a:c≠b):w'.cell? ⟨c,p,none⟩=W.cell? ⟨c,p,none⟩:=by
 unfold World.cell?
 rw[h.block c d (fun e=>a (by cases e;rfl))]
theorem Ty.frozen{w:World}{b t p:Nat}(h:Ty w b t):w.frozen? ⟨b,p,none⟩=false:=by
 obtain ⟨c,e⟩:=h
 simp[World.frozen?,e]
theorem Ad{W:World}{b p:Nat}{u:Value}(v:Value)(d:W.cell? ⟨b,p,none⟩=some u):
  W.grownBy (W.setCell ⟨b,p,none⟩ v) (some b)∧(∀q,q≠p->(W.setCell ⟨b,p,none⟩ v).cell? ⟨b,q,none⟩=W.cell? ⟨b,q,none⟩)∧(∀t,Ty W b t->Ty (W.setCell ⟨b,p,none⟩ v) b t)∧(W.setCell ⟨b,p,none⟩ v).cell? ⟨b,p,none⟩=some v:=by
 refine ⟨⟨rfl,rfl,rfl,by simp,fun i _ a=>zl W (aV b p) i v (fun e=>a (by rw[e]))⟩,fun q f=>World.cell?_setCell_other _ _ _ _ (fun e=>f (by cases e;rfl)),?_,World.cell?_setCell_same _ _ _ d⟩
 rintro t ⟨c,e⟩
 exact ⟨_,zr W b p c t v e⟩
structure Ve (W:World) (N:Nat->Prop) (b o:Nat) (a:Option Addr) (c:Nat) (args:List Ex) (i:Nat) (wr:World):Prop where
 grown:W.grownBy wr (some b)
 cells:∀p,p≠o+5->wr.cell? ⟨b,p,none⟩=W.cell? ⟨b,p,none⟩
 hdr:wr.cell? ⟨b,o+5,none⟩=some (.slice a args.length c)
 ty:∀t,Ty W b t->Ty wr b t
 rows:∀j (h:j < args.length),∃g cs,a=some ⟨g,0,none⟩∧W.heap.size<=g∧Ty wr g 26∧wr.rangeAt g (j*6) cs∧((j < i∧Ih wr (fun b=>g+1<=b) args[j] cs)∨(i<=j∧AI N wr args[j] cs))
theorem Ve.drew{W:World}{N:NP}{b o:Nat}{a:Option Addr}{c:Nat}{args:List Ex}{i:Nat}{wr:World}(h:Ve W N b o a c args i wr):Ve W N b o a c args i wr.drew:=by
 refine ⟨⟨h.grown.os,h.grown.tape,h.grown.output,h.grown.size,h.grown.block⟩,h.cells,h.hdr,h.ty,fun j f=>?_⟩
 obtain ⟨g,cs,h1,h2,h3,e,d⟩:=h.rows j f
 refine ⟨g,cs,h1,h2,h3,e,d.imp (fun h=>⟨h.1,Ih.same (w:=wr) (w':=wr.drew) (fun _ h _=>h) (fun _ _ _=>rfl) h.2⟩) (fun h=>⟨h.1,AI.same (w:=wr) (w':=wr.drew) (fun _ h=>h) (fun _ _=>rfl) h.2⟩)⟩
theorem Ve.next{W:World}{N:NP}{b o:Nat}{a:Option Addr}{c:Nat}{args:List Ex}{i:Nat}{wr w4:World}(h:Ve W N b o a c args i wr)(hi:i < args.length)(hb:b < W.heap.size)(hN:∀c,N c->c < W.heap.size∧c≠b){g:Nat}(F:a=some ⟨g,0,none⟩)
 (u:Xq wr g (i*6) args[i].args w4):Ve W N b o a c args (i+1) w4:=by
 obtain ⟨f,m,B,a',E,Z,R⟩:=u
 obtain ⟨Y,cs,h1,h2,h3,h4,h5⟩:=h.rows i hi
 obtain rfl:g=Y:=by rw[F] at h1;cases h1;rfl
 have K:=h.grown.size
 have r:b≠g:=by omega
 have Q:=h3.lt
 have J:w4.heap[b]?=wr.heap[b]?:=f.block b (by omega) (fun e=>r (by cases e;rfl))
 have G:∀p,w4.cell? (aV b p)=wr.cell? (aV b p):=fun p=>by unfold World.cell?;rw[J]
 refine ⟨⟨f.os.trans h.grown.os,f.tape.trans h.grown.tape,f.output.trans h.grown.output,yu K f.size,fun q U w=>(f.block q (by omega) (fun e=>by cases e;omega)).trans (h.grown.block q U w)⟩,fun p M=>(G p).trans (h.cells p M),(G _).trans h.hdr,fun t O=>(h.ty t O).same J,fun j hj=>?_⟩
 obtain ⟨g1,S,n,I,D,H,d⟩:=h.rows j hj
 obtain rfl:g=g1:=by rw[F] at n;cases n;rfl
 by_cases y:j=i
 ·subst y
  rcases d with ⟨d,_⟩|⟨_,d⟩
  ·omega
  obtain ⟨a0,A,rfl,T,e2,e3⟩:=d.cells
  obtain ⟨V,r1,r2,X,L,r5⟩:=Br H
  refine ⟨g,_,n,I,B _ D,A6 ((m _ (by omega)).trans V) (A6 ((m _ (by omega)).trans r1) (A6 ((m _ (by omega)).trans r2) (A6 ((m _ (by omega)).trans X) (A6 ((m _ (by omega)).trans L) (BW Z))))),.inl ⟨by omega,Ih.mk' T e2 (R.same (fun x l _=>by have:wr.heap.size<=x:=l;show g+1<=x;omega) (fun _ _ _=>rfl))⟩⟩
 ·refine ⟨g,S,n,I,B _ D,fun k v C=>?_,?_⟩
  ·have hl:k < 6:=by
    have h1:=(yx.1 C).1
    rcases d with ⟨_,d⟩|⟨_,d⟩
    ·cases P:args[j] with
     |mk=>rw[P,Ih] at d;obtain ⟨_,_,rfl,_⟩:=d;simpa using h1
    ·rw[d.len] at h1;exact h1
   exact (m _ (by omega)).trans (H k v C)
  ·rcases d with ⟨d,s⟩|⟨d,s⟩
   ·exact .inl ⟨by omega,s.same (fun _ h _=>h) (fun x l z=>f.block x z (fun e=>by cases e;have:g+1<=g:=l;omega))⟩
   ·exact .inr ⟨by omega,s.same (fun _ h=>h) (fun x l=>f.block x (by have:=(hN x l).1;omega) (fun e=>by cases e;have:=(hN g l).1;omega))⟩
theorem TI(N:NP)(Bx:Nat):∀(e:Ex) (b o t:Nat) (cs:LV) (W:World),AI N W e cs->W.rangeAt b o cs->Ty W b t->Dt e->(∀c,N c->c < W.heap.size∧c≠b)->Bx≠b->W.cell? ⟨Bx,0,none⟩=some (.func (.func 90) #[] #[.pointer (some ⟨Bx,0,none⟩)])->
  Calls Tryz.prog 90 #[.pointer (some ⟨b,o,none⟩),.pointer (some ⟨Bx,0,none⟩)] W fun x w'=>x=.returned (.tuple #[])∧Xq W b o e.args w':=by
 refine Jl fun op nn u rn ri args ih=>?_
 intro b o t cs W T X ty A hN R w
 rw[AI] at T
 obtain ⟨a,cap,rfl,hl,hr,F⟩:=T
 rw[Dt] at A
 obtain ⟨-, -, -, -, -,c5⟩:=Br X
 have Y:BF N W 6 (fun c d=>AI N W d c) ⟨a,args.length,cap⟩ args:=⟨rfl,hl,fun i hi=>by
  obtain ⟨b',o',c,g1,g2,g3,g4⟩:=DX F i hi
  exact ⟨b',o',c,g1,g2,g4.len,by rw[yy] at g3;exact g3,g4⟩⟩
 have y:=Qh Y (fun c hc=>(hN c hc).1) (fun c d h=>BA h) A.1
 have ae:=yb y
 have IH:=yb ih
 have HN:=yb hN
 have ac:=yb ty
 have ad:=yb A.2
 have a0:=yb A.1
 have a7:=yb (yP W _ w)
 have r:=yb (yP W _ c5)
 have Q:=yb R
 have s:=yb w
 show Calls _ _ _ _ (fun x w'=>x=.returned (.tuple #[])∧Xq W b o args w')
 clear Y y ih hN ty A X F w R hl hr
 go_enter Tryz.func90,Tryz.ntmps90
 go_wp2_with (first|(go_at_call 91;refine ae.o.mono ?_;rintro e w1 ⟨⟨m,n',f⟩,rfl,I,C,n⟩;rw[show Aw.v ⟨m,n',f⟩=Value.slice m n' f from rfl];simp only at I n;have d5:=(C.cell (p:=(aV b (o+5))) r.o).trans c5;have df:=(Ty.same ac.o (C.block b r.o)).frozen (p:=o+5);have l:=yb C;have Z:=yb I;have z:=yb n;clear C I n))
 obtain rfl:=Z.o.symm
 have hI:Ve W N b o m f args 0 (w1.setCell (aV b (o+5)) (.slice m args.length f)):=by
  obtain ⟨H,s2,s3,s4⟩:=Ad (.slice m args.length f) d5
  have aa:=l.o.size
  refine ⟨⟨H.os.trans l.o.os,H.tape.trans l.o.tape,H.output.trans l.o.output,yu aa H.size,fun q hq a8=>(H.block q (by omega) a8).trans (l.o.block q hq)⟩,fun p hp=>(s2 p hp).trans (l.o.cell (p:=(aV b p)) r.o),s4,fun t ht=>s3 t (ht.same (l.o.block b r.o)),fun j hj=>?_⟩
  obtain ⟨g,cs,q1,q2,G,M,K,q6⟩:=z.o j hj
  have a2:g≠b:=by have:=r.o;omega
  have hg:(w1.setCell (aV b (o+5)) (.slice m args.length f)).heap[g]?=w1.heap[g]?:=H.block g G.lt (fun e=>a2 (by cases e;rfl))
  refine ⟨g,cs,q1,q2,G.same hg,A0 K hg,.inr ⟨yI _,q6.same (fun _ h=>h) (fun x hx=>?_)⟩⟩
  have O:=HN.o x hx
  exact (H.block x (by omega) (fun e=>O.2 (by cases e;rfl))).trans (l.o.block x O.1)
 have V:=yb hI
 have ah:args.length<=100000:=a0.o
 clear hI d5 df c5
 generalize w1.setCell (aV b (o+5)) (.slice m args.length f)=w2 at*
 have e5:=V.o.hdr
 clear l z Z
 go_wp2
 clear e5
 go_loopw [17] (fun iv wr=>∃i:Nat,i<=args.length∧iv=iV i∧Hid (Ve W N b o m f args i wr)) (fun iv _=>args.length - (intOf iv).toNat)
 case atStart=>exact ⟨0,yI _,rfl,V⟩
 case round=>
  obtain ⟨i,hi,rfl,k⟩:=hrel
  by_cases B:i < args.length
  ·obtain ⟨g,cs,rfl,q2,G,M,K⟩:=k.o.drew.rows i B
   have T:AI N wr.drew args[i] cs:=K.elim (fun h=>by omega) (fun h=>h.2)
   have hz:=k.o.grown.size
   have S:=r.o
   have J:=a7.o
   have D:wr.drew.cell? (aV Bx 0)=some (.func (.func 90) #[] #[pV Bx 0]):=(IY k.o.grown J Q.o).trans s.o
   have E:=IH.o args[i] (yJ B) g (i*6) 26 cs wr.drew T M G (MI ad.o i B) (fun c hc=>by have:=HN.o c hc;show c < wr.heap.size∧_;omega) (by omega) D
   have U:=yb E
   have a6:(i:Int) < (args.length:Int):=by omega
   have L:=fun w4=>k.o.drew.next (w4:=w4) B S HN.o rfl
   have ag:=yb L
   have e5:=k.o.hdr
   have eB:wr.cell? (aV Bx 0)=some (.func (.func 90) #[] #[pV Bx 0]):=D
   have af:Hid (wr.drew.cell? (aV Bx 0)=some (.func (.func 90) #[] #[pV Bx 0])∧wr.drew.cell? (aV b (o+5))=some (.slice (some (aV g 0)) args.length f)):=yb ⟨D,e5⟩
   have HQ:Hid (∀w4,Ve W N b o (some (aV g 0)) f args (i+1) w4->w4.cell? (aV Bx 0)=some (.func (.func 90) #[] #[pV Bx 0])∧w4.cell? (aV b (o+5))=some (.slice (some (aV g 0)) args.length f)):=yb (fun w4 h=>⟨(IY h.grown J Q.o).trans s.o,h.hdr⟩)
   clear T q2 G M K hz S J D E L
   go_wp2_with fail
   go_region_held3 (fun w'=>w'.cell? (aV Bx 0)=some (.func (.func 90) #[] #[pV Bx 0])∧w'.cell? (aV b (o+5))=some (.slice (some (aV g 0)) args.length f)) (first|exact af.o|exact ab.o)
    (first|(go_at_call 90;refine U.o.mono ?_;rintro e w4 ⟨rfl,y⟩;have P:=yb (ag.o w4 y);have ab:=yb (HQ.o w4 P.o);clear y))
   go_wp2
   exact ⟨⟨i+1,by omega,by push_cast;rfl,P⟩,by simp[intOf];omega⟩
  ·obtain rfl:i=args.length:=by omega
   have a6:decide ((args.length:Int) < (args.length:Int))=false:=by simp
   go_wp2
   go_end0
   refine ⟨rfl,k.o.grown,k.o.cells,k.o.ty,m,f,k.o.hdr,Rq fun j hj=>?_⟩
   obtain ⟨g,cs,q1,q2,G,M,K⟩:=k.o.rows j hj
   rw[yy]
   exact ⟨g,cs,q1,q2,G,M,K.elim (fun h=>h.2.same (fun x hx _=>by have:g+1<=x:=hx;show W.heap.size<=x;omega) (fun _ _ _=>rfl)) (fun h=>by omega)⟩
theorem Rr:∀(e:Ex) {N N':NP} {w:World} {d:Ex} {cs:LV},AI N w e cs->AI N' w d cs->e=d:=by
 refine Jl fun op nn u rn ri args ih=>?_
 intro N N' w d cs h p
 cases d with
 |mk op' nn' u' rn' ri' args'=>
  rw[AI] at h p
  obtain ⟨a,cap,rfl,_,_,hr⟩:=h
  obtain ⟨A,n,m,_,_,k⟩:=p
  simp only[xO,Value.int.injEq,Value.string.injEq,qi,qv,and_true] at m
  obtain ⟨rfl,rfl,rfl,rfl,rfl,rfl,t,rfl⟩:=m
  have:args=args':=by
   refine xB t fun i hi g=>?_
   obtain ⟨b,o,c,g1,_,y,q⟩:=DX hr i hi
   obtain ⟨B,C,s,l,_,v,r⟩:=DX k i g
   rw[g1] at l
   cases l
   have x:c=s:=by
    refine xB (by rw[q.len,r.len]) fun j z f=>?_
    have h1:=y j _ (yk z)
    have h2:=v j _ (yk f)
    rw[h1] at h2
    exact yi h2
   subst x
   exact ih _ (yJ hi) q r
  rw[this]
mutual
theorem Ih.exV{w:World}{M N:NP}(hM:∀b,M b->b < w.heap.size->N b):∀ {e:Ex} {cs:LV},Ih w M e cs->AI N w e cs
 |.mk _ _ _ _ _ args,_,h=>by
  rw[Ih] at h
  rw[AI]
  obtain ⟨a,cap,h1,h2,h3,c⟩:=h
  exact ⟨a,cap,h1,h2,h3,DM.rowV hM c⟩
theorem DM.rowV{w:World}{M N:NP}{a:Option Addr}(hM:∀b,M b->b < w.heap.size->N b):∀ {l:List Ex} {k:Nat},DM w M a k l->Df N w a k l
 |[],_,h=>by rw[Df];trivial
 |e::r,k,h=>by
  rw[DM] at h
  rw[Df]
  obtain ⟨⟨g,cs,h1,h2,h3,f,d⟩,c⟩:=h
  exact ⟨⟨g,0,cs,h1,hM g h2 h3.lt,by rw[yy];exact f,Ih.exV hM d⟩,DM.rowV hM c⟩
end
def GM{α:Type}(B:Nat)(W:World)(t sz:Nat)(Q:LV->α->Prop)(h:Aw)(l:List α):Prop:=
 h.n=l.length∧∀i (hi:i < l.length),∃g cs,h.a=some ⟨g,0,none⟩∧B<=g∧Ty W g t∧cs.length=sz∧W.rangeAt g (i*sz) cs∧Q cs l[i]
theorem GM.of{α:Type}{B b:Nat}{W:World}{t sz:Nat}{Q:LV->α->Prop}{h:Aw}{l:List α}(d:h.n=l.length)(c:B<=b)(hr:∀i (hi:i < l.length),∃g cs,h.a=some ⟨g,0,none⟩∧b<=g∧Ty W g t∧cs.length=sz∧W.rangeAt g (i*sz) cs∧Q cs l[i]):GM B W t sz Q h l:=
 ⟨d,fun i hi=>by
  obtain ⟨g,cs,h1,h2,h3⟩:=hr i hi
  exact ⟨g,cs,h1,yu c h2,h3⟩⟩
theorem GM.up{α:Type}{B:Nat}{W W':World}{t sz:Nat}{Q:LV->α->Prop}{h:Aw}{l:List α}(hr:GM B W t sz Q h l)(hb:∀b,B<=b->b < W.heap.size->W'.heap[b]?=W.heap[b]?):GM B W' t sz Q h l:=
 ⟨hr.1,fun i hi=>by
  obtain ⟨g,cs,h1,h2,h3,c,a,d⟩:=hr.2 i hi
  exact ⟨g,cs,h1,h2,h3.same (hb g h2 h3.lt),c,A0 a (hb g h2 h3.lt),d⟩⟩
theorem GM.upT{α:Type}{B:Nat}{W W':World}{t sz:Nat}{Q:LV->α->Prop}{h:Aw}{l:List α}(hr:GM B W t sz Q h l)(hb:∀b,B<=b->Ty W b t->W'.heap[b]?=W.heap[b]?):GM B W' t sz Q h l:=
 ⟨hr.1,fun i hi=>by
  obtain ⟨g,cs,h1,h2,h3,c,a,d⟩:=hr.2 i hi
  exact ⟨g,cs,h1,h2,h3.same (hb g h2 h3),c,A0 a (hb g h2 h3),d⟩⟩
theorem Ch{w:World}{b o:Nat}{v:Value}{l:LV}(h:w.rangeAt b o (v::l)):w.cell? ⟨b,o,none⟩=some v∧w.rangeAt b (o+1) l:=
 ⟨h 0 v rfl,fun j u a=>by have:=h (j+1) u (by simpa using a);rw[show o+1+j=o+(j+1) by omega];exact this⟩
theorem MJ{w:World}{b o:Nat}{l m:LV}(h:w.rangeAt b o (l++m)):w.rangeAt b o l∧w.rangeAt b (o+l.length) m:=
 ⟨fun j u a=>h j u (by rw[zk (yx.1 a).1];exact a),fun j u a=>by
  have:=h (l.length+j) u (by rw[yN (by omega),xt];exact a)
  rw[show o+l.length+j=o+(l.length+j) by omega];exact this⟩
theorem BX{w:World}{b o:Nat}{c l:LV}(a:c.length=6)(h:w.rangeAt b o (c++l)):w.rangeAt b o c∧w.rangeAt b (o+6) l:=by
 have:=MJ h
 rw[a] at this;exact this
theorem E0{w:World}{b o:Nat}{r:Rf}{l:LV}(hs:r.name.size<=maxLen)(to:Int)(h:w.rangeAt b o (AU r++l)):RV w to r b o∧w.rangeAt b (o+2) l:=by
 obtain ⟨h1,h2⟩:=MJ h
 exact ⟨⟨hs,h1 0 _ rfl,h1 1 _ rfl⟩,h2⟩
section
variable{N N':NP}{w W:World}{B:Nat}{h:Aw}
theorem Db(hb:∀b,N b->W.heap[b]?=w.heap[b]?){e:Ex}{c:LV}{b o:Nat}(lt:Int)(a:AI N w e c)(hr:W.rangeAt b o c):EV N W lt e b o:=⟨c,hr,a.same (fun _ h=>h) hb⟩
theorem Gy{α:Type}{t sz:Nat}{Q:LV->α->Prop}{P:Nat->Nat->Nat->α->Prop}{l:List α}(hr:GM B W t sz Q h l)(e:l.length<=100000)(hN:∀g,B<=g->N' g)(b:∀i (_:i < l.length) g cs,h.a=some ⟨g,0,none⟩->W.rangeAt g (i*sz) cs->Q cs l[i]->P i g (i*sz) l[i]):Eg N' W t sz P h l:=
 ⟨hr.1,by omega,fun i hi=>by
  obtain ⟨g,cs,h1,h2,h3,f,c,d⟩:=hr.2 i hi
  exact ⟨g,h1,hN g h2,h3,b i hi g cs h1 c d⟩⟩
variable(hb:∀b,N b->W.heap[b]?=w.heap[b]?)
include hb
theorem St(i g o:Nat)(cs:LV)(d:F9)(hr:W.rangeAt g o cs)(h:H7 N w cs d):WW (EV N W) W i g o d:=by
 obtain ⟨h1,c,rfl,h2⟩:=h
 obtain ⟨a,r1⟩:=Ch hr
 exact ⟨⟨h1,a⟩,Db hb _ h2 r1⟩
theorem Qi(i g o:Nat)(cs:LV)(d:DO)(hr:W.rangeAt g o cs)(h:Il N w cs d):Wc (EV N W) W i g o d:=by
 obtain ⟨h1,c,rfl,h2⟩:=h
 obtain ⟨a,r1⟩:=Ch hr
 exact ⟨⟨h1,a⟩,Db hb _ h2 r1⟩
theorem Ox(i g o:Nat)(cs:LV)(d:AE)(hr:W.rangeAt g o cs)(h:Fa N w cs d):TE (EV N W) (RV W) W i g o d:=by
 obtain ⟨h1,h2,c0,c1,c2,c3,c4,c5,c6,c7,rfl,k,g1,j,e,c,b,a,t⟩:=h
 obtain ⟨s,r⟩:=Ch hr
 obtain ⟨f,r⟩:=E0 h2 (if i=0 then 0 else 6) r
 obtain ⟨v,r⟩:=BX k.len r
 obtain ⟨l,r⟩:=BX g1.len r
 obtain ⟨p,r⟩:=BX j.len r
 obtain ⟨q,r⟩:=BX e.len r
 obtain ⟨u,r⟩:=BX c.len r
 obtain ⟨m,r⟩:=BX b.len r
 obtain ⟨x,n⟩:=BX a.len r
 exact ⟨⟨h1,s⟩,f,Db hb _ k v,Db hb _ g1 l,Db hb _ j p,Db hb _ e q,Db hb _ c u,Db hb _ b m,Db hb _ a x,Db hb _ t n⟩
theorem Qj(i g o:Nat)(cs:LV)(d:CY)(hr:W.rangeAt g o cs)(h:Im N w cs d):Wd (EV N W) (RV W) W i g o d:=by
 obtain ⟨h1,h2,h3,c0,rfl,a⟩:=h
 obtain ⟨b,r⟩:=Ch hr
 obtain ⟨f,r⟩:=E0 h2 4 r
 obtain ⟨v,r⟩:=Ch r
 obtain ⟨c,r⟩:=BX a.len r
 obtain ⟨e,_⟩:=E0 (l:=[]) h3 (if d.river then 0 else 3) (by rw[yU];exact r)
 exact ⟨⟨h1,b⟩,f,v,Db hb _ a c,e⟩
theorem Qk(i g o:Nat)(cs:LV)(d:Cs)(hr:W.rangeAt g o cs)(h:FA N w cs d):We (EV N W) (RV W) i g o d:=by
 obtain ⟨h1,c0,rfl,a⟩:=h
 obtain ⟨f,r⟩:=E0 h1 5 hr
 exact ⟨f,Db hb _ a r⟩
theorem Oy(i g o:Nat)(cs:LV)(d:AZ)(hr:W.rangeAt g o cs)(h:Fb N w cs d):TF (EV N W) (RV W) W i g o d:=by
 obtain ⟨h1,h2,h3,c0,c1,c2,c3,c4,rfl,c,g1,b,a,m⟩:=h
 obtain ⟨k,r⟩:=Ch hr
 obtain ⟨n,r⟩:=Ch r
 obtain ⟨f,r⟩:=E0 h2 5 r
 obtain ⟨s,r⟩:=E0 h3 (if d.kind=1 then 0 else 4) r
 obtain ⟨v,r⟩:=Ch r
 obtain ⟨q,r⟩:=BX c.len r
 obtain ⟨e,r⟩:=BX g1.len r
 obtain ⟨j,r⟩:=BX b.len r
 obtain ⟨l,p⟩:=BX a.len r
 exact ⟨k,⟨h1,n⟩,f,s,v,Db hb _ c q,Db hb _ g1 e,Db hb _ b j,Db hb _ a l,Db hb _ m p⟩
theorem Ql(i g o:Nat)(cs:LV)(d:D9)(hr:W.rangeAt g o cs)(h:Io N w cs d):Wf (EV N W) (RV W) W i g o d:=by
 obtain ⟨h1,h2,h3,c0,rfl,a⟩:=h
 obtain ⟨c,r⟩:=Ch hr
 obtain ⟨f,r⟩:=E0 h2 5 r
 obtain ⟨b,r⟩:=E0 h3 4 r
 exact ⟨⟨h1,c⟩,f,b,Db hb _ a r⟩
end
structure Kf (x:Ar):Prop where
 lets:x.lets.length<=100000
 crops:x.crops.length<=100000
 reaches:x.reaches.length<=100000
 farms:x.farms.length<=100000
 rots:x.rots.length<=100000
 rights:x.rights.length<=100000
 duties:x.duties.length<=100000
 turns:∀d∈x.rots,d.turns.length<=100000
 exprs:∀e∈As x,Dt e.1
theorem TJ{N N':NP}{w U W:World}{B:Nat}{L L':Bt}{l:List BG}(hb:∀b,N b->W.heap[b]?=w.heap[b]?)(hr:GM B U 109 23 (fun cs (d:BG × Nat)=>H8 N w (A2 L d.2) cs d.1) L'.rots l.zipIdx)(hN:∀g,B<=g->N' g)(P:l.length<=100000)
 (p:∀d∈l,d.turns.length<=100000)(y:∀g,L'.rots.a=some ⟨g,0,none⟩->Ty U g 109->Ty W g 109)(J:∀g,L'.rots.a=some ⟨g,0,none⟩->∀i q,q < 22->W.cell? ⟨g,i*23+q,none⟩=U.cell? ⟨g,i*23+q,none⟩)
 (C:∀i (_:i < l.length) g,L'.rots.a=some ⟨g,0,none⟩->W.cell? ⟨g,i*23+22,none⟩=some (A2 L' i).v)(F:∀i (h:i < l.length),GM B W 158 8 (FA N w) (A2 L' i) l[i].turns):
  Eg N' W 109 23 (Wr N' (EV N W) (RV W) W (A2 L')) L'.rots l:=by
 refine ⟨by have:=hr.1;rwa [zF] at this,by omega,fun i hi=>?_⟩
 obtain ⟨g,cs,n,I,E,R,G,o⟩:=hr.2 i (by rw[zF];exact hi)
 rw[qr] at o
 simp only[yy] at o
 refine ⟨g,n,hN g I,y g n E,?_⟩
 obtain ⟨h1,h2,c0,c1,c2,rfl,t,g1,z,_⟩:=o
 have x:W.rangeAt g (i*23) (.string l[i].name::(AU l[i].on++(iV l[i].rank::(c0++(c1++c2))))):=fun j u A=>by
  have m:=(yx.1 A).1
  have c:(Value.string l[i].name::(AU l[i].on++(iV l[i].rank::(c0++(c1++c2))))).length=22:=by simp[Ay,t.len,g1.len,z.len]
  rw[c] at m
  rw[J g n i j m]
  refine G j u ?_
  have e:(Value.string l[i].name::(AU l[i].on++(iV l[i].rank::(c0++(c1++(c2++[(A2 L i).v]))))))=(Value.string l[i].name::(AU l[i].on++(iV l[i].rank::(c0++(c1++c2)))))++[(A2 L i).v]:=by simp
  rw[e,zk (by omega)]
  exact A
 obtain ⟨K,r⟩:=Ch x
 obtain ⟨f,r⟩:=E0 h2 4 r
 obtain ⟨v,r⟩:=Ch r
 obtain ⟨M,r⟩:=BX t.len r
 obtain ⟨D,H⟩:=BX g1.len r
 exact ⟨⟨h1,K⟩,f,v,Db hb _ t M,Db hb _ g1 D,Db hb _ z H,C i hi g n,Gy (F i hi) (p _ (yJ hi)) hN (fun k Q g cs _ s O=>Qk hb k g (k*8) cs _ s O)⟩
theorem Qm{N N':NP}{w W:World}{B:Nat}{L:Bt}{x:Ar}{f a1 e:Option Addr}{c h d:Nat}(hb:∀b,N b->W.heap[b]?=w.heap[b]?)(hN:∀g,B<=g->N' g)(hs:Kf x)
 (k:W.heap[L.s]?=some (.cells #[.string x.name,.int .i64 x.season.op,.int .i64 x.season.n,.int .i64 x.season.u,.string x.season.rn,.int .i64 x.season.ri,.slice f x.season.args.length c,.int .i64 x.cap.op,.int .i64 x.cap.n,.int .i64 x.cap.u,.string x.cap.rn,.int .i64 x.cap.ri,.slice a1 x.cap.args.length h,.int .i64 x.start.op,.int .i64 x.start.n,.int .i64 x.start.u,.string x.start.rn,.int .i64 x.start.ri,.slice e x.start.args.length d,L.lets.v,L.crops.v,L.reaches.v,L.farms.v,L.rots.v,L.rights.v,L.duties.v] 35 (0,0)))(o:x.name.size<=maxLen)(h0:AI N w x.season [.int .i64 x.season.op,.int .i64 x.season.n,.int .i64 x.season.u,.string x.season.rn,.int .i64 x.season.ri,.slice f x.season.args.length c])(h1:AI N w x.cap [.int .i64 x.cap.op,.int .i64 x.cap.n,.int .i64 x.cap.u,.string x.cap.rn,.int .i64 x.cap.ri,.slice a1 x.cap.args.length h])(h2:AI N w x.start [.int .i64 x.start.op,.int .i64 x.start.n,.int .i64 x.start.u,.string x.start.rn,.int .i64 x.start.ri,.slice e x.start.args.length d])
 (m:GM B W 50 7 (H7 N w) L.lets x.lets)(rc:GM B W 92 7 (Il N w) L.crops x.crops)(l:GM B W 66 51 (Fa N w) L.reaches x.reaches)(t:GM B W 94 12 (Im N w) L.farms x.farms)
 (q:Eg N' W 109 23 (Wr N' (EV N W) (RV W) W (A2 L)) L.rots x.rots)(ri:GM B W 131 37 (Fb N w) L.rights x.rights)(p:GM B W 135 11 (Io N w) L.duties x.duties):Cb N' (EV N W) (RV W) W L x:=by
 have cell:∀j v,#[.string x.name,iV x.season.op,iV x.season.n,iV x.season.u,.string x.season.rn,iV x.season.ri,.slice f x.season.args.length c,iV x.cap.op,iV x.cap.n,iV x.cap.u,.string x.cap.rn,iV x.cap.ri,.slice a1 x.cap.args.length h,iV x.start.op,iV x.start.n,iV x.start.u,.string x.start.rn,iV x.start.ri,.slice e x.start.args.length d,L.lets.v,L.crops.v,L.reaches.v,L.farms.v,L.rots.v,L.rights.v,L.duties.v][j]?=some v->W.cell? (aV L.s j)=some v:=fun j v r=>by simp only[World.cell?,k];simpa using r
 refine ⟨⟨_,k⟩,⟨o,cell 0 _ rfl⟩,?_,?_,?_,cell 19 _ rfl,cell 20 _ rfl,cell 21 _ rfl,cell 22 _ rfl,cell 23 _ rfl,cell 24 _ rfl,cell 25 _ rfl,?_,?_,?_,?_,q,?_,?_⟩
 ·exact Db hb 0 h0 (A6 (cell 1 _ rfl) (A6 (cell 2 _ rfl) (A6 (cell 3 _ rfl) (A6 (cell 4 _ rfl) (A6 (cell 5 _ rfl) (BW (cell 6 _ rfl)))))))
 ·exact Db hb 0 h1 (A6 (cell 7 _ rfl) (A6 (cell 8 _ rfl) (A6 (cell 9 _ rfl) (A6 (cell 10 _ rfl) (A6 (cell 11 _ rfl) (BW (cell 12 _ rfl)))))))
 ·exact Db hb 0 h2 (A6 (cell 13 _ rfl) (A6 (cell 14 _ rfl) (A6 (cell 15 _ rfl) (A6 (cell 16 _ rfl) (A6 (cell 17 _ rfl) (BW (cell 18 _ rfl)))))))
 ·exact Gy m hs.lets hN (fun i _ g cs _ hr a=>St hb i g _ cs _ hr a)
 ·exact Gy rc hs.crops hN (fun i _ g cs _ hr a=>Qi hb i g _ cs _ hr a)
 ·exact Gy l hs.reaches hN (fun i _ g cs _ hr a=>Ox hb i g _ cs _ hr a)
 ·exact Gy t hs.farms hN (fun i _ g cs _ hr a=>Qj hb i g _ cs _ hr a)
 ·exact Gy ri hs.rights hN (fun i _ g cs _ hr a=>Oy hb i g _ cs _ hr a)
 ·exact Gy p hs.duties hN (fun i _ g cs _ hr a=>Ql hb i g _ cs _ hr a)
theorem CN{α:Type}{f:Nat->α->α}(h:∀i a,f i a=a)(l:List α):l.mapIdx f=l:=by
 refine xB (by simp) fun i h1 h2=>?_
 rw[List.getElem_mapIdx];exact h _ _
theorem WX(x:Ar):x.mp (fun _ e=>e) (fun _ r=>r)=x:=by
 unfold Ar.mp
 have h1:=CN (f:=F9.mp fun _ e=>e) (fun _ _=>rfl) x.lets
 have h2:=CN (f:=DO.mp fun _ e=>e) (fun _ _=>rfl) x.crops
 have h3:=CN (f:=AE.mp (fun _ e=>e) fun _ r=>r) (fun _ _=>rfl) x.reaches
 have g:=CN (f:=CY.mp (fun _ e=>e) fun _ r=>r) (fun _ _=>rfl) x.farms
 have c:=CN (f:=BG.mp (fun _ e=>e) fun _ r=>r) (fun _ d=>by
  unfold BG.mp
  rw[CN (f:=Cs.mp (fun _ e=>e) fun _ r=>r) (fun _ _=>rfl) d.turns]) x.rots
 have b:=CN (f:=AZ.mp (fun _ e=>e) fun _ r=>r) (fun _ _=>rfl) x.rights
 have a:=CN (f:=D9.mp (fun _ e=>e) fun _ r=>r) (fun _ _=>rfl) x.duties
 rw[h1,h2,h3,g,c,b,a]
section
variable{N:NP}{E E':Int->Ex->Nat->Nat->Prop}{R R':Int->Rf->Nat->Nat->Prop}{w w':World}{L:Bt}{x:Ar}
theorem Cb.imp(h:Cb N E R w L x)(d:∀b t,(N b∨b=L.s)->Ty w b t->Ty w' b t)(a:∀b o,(N b∨b=L.s)->Oo w b o->w'.cell? ⟨b,o,none⟩=w.cell? ⟨b,o,none⟩)
 (c:∀lt e b o,(N b∨b=L.s)->Gw w b o->E lt e b o->E' lt e b o)(hr:∀to r b o,(N b∨b=L.s)->Qa w b o->R to r b o->R' to r b o):Cb N E' R' w' L x:=by
 have:=h.map (f:=fun _ e=>e) (g:=fun _ r=>r) d a c hr
 rwa [WX] at this
theorem Ac{w w':World}{b o:Nat}(h:w'.heap[b]?=w.heap[b]?):w'.cell? ⟨b,o,none⟩=w.cell? ⟨b,o,none⟩:=by
 unfold World.cell?;rw[h]
theorem Gw.lt{b o:Nat}(h:Gw w b o):b < w.heap.size:=by obtain ⟨t,h,_⟩:=h;exact h.lt
theorem Qa.lt{b o:Nat}(h:Qa w b o):b < w.heap.size:=by obtain ⟨t,h,_⟩:=h;exact h.lt
theorem Oo.lt{b o:Nat}(h:Oo w b o):b < w.heap.size:=by obtain ⟨t,h,_⟩:=h;exact h.lt
theorem Cb.up{M:NP}(h:Cb N (EV M w) (RV w) w L x)(hM:∀b,M b->b < w.heap.size)(hb:Below w.heap.size w w'):Cb N (EV M w') (RV w') w' L x:=by
 refine h.imp (fun b t _ f=>f.same (hb.block b f.lt)) (fun b o _ a=>Ac (hb.block b a.lt)) (fun lt e b o _ a g=>?_) (fun to r b o _ a hr=>?_)
 ·obtain ⟨c,h1,h2⟩:=g
  exact ⟨c,A0 h1 (hb.block b a.lt),h2.same (fun _ h=>h) (fun b d=>hb.block b (hM b d))⟩
 ·exact ⟨hr.1,(Ac (hb.block b a.lt)).trans hr.2.1,(Ac (hb.block b a.lt)).trans hr.2.2⟩
end
theorem AD.split{α β:Type}{R:α->β->Prop}:∀ {l:List α} {m:List β} {l':List α} {a:List β},l.length=m.length->AD R (l++l') (m++a)->AD R l m∧AD R l' a
 |[],[],_,_,_,h=>⟨trivial,h⟩
 |_::_,_::_,_,_,hl,h=>by
  obtain ⟨h1,h2⟩:=AD.split (by simpa using hl) h.2
  exact ⟨⟨h.1,h1⟩,h2⟩
 |[],_::_,_,_,hl,_=>by simp at hl
 |_::_,[],_,_,hl,_=>by simp at hl
theorem Iq{α β γ:Type}{R:α->β->Prop}(f:Nat->List α)(g:Nat->γ->List β):∀(l:List γ) (k:Nat),(∀i (h:i < l.length),(f (k+i)).length=(g (k+i) l[i]).length)->
  AD R ((List.range' k l.length).flatMap f) ((l.zipIdx k).flatMap fun p=>g p.2 p.1)->∀i (h:i < l.length),AD R (f (k+i)) (g (k+i) l[i])
 |[],_,_,_,i,h=>by simp at h
 |x::r,k,hl,hA,i,h=>by
  rw[yz,List.range'_succ,zh,xV,zh] at hA
  obtain ⟨h1,h2⟩:=AD.split (hl 0 (by simp)) hA
  cases i with
  |zero=>exact h1
  |succ i=>
   have:=Iq f g r (k+1) (fun i hi=>by have:=hl (i+1) (by simpa using hi);rw[show k+1+i=k+(i+1) by omega];simpa using this) h2 i (by simpa using h)
   rw[show k+1+i=k+(i+1) by omega] at this
   simpa using this
theorem BN{α β γ:Type}{R:α->β->Prop}(f:Nat->List α)(g:Nat->γ->List β)(l:List γ)(n:Nat)(b:n=l.length)(c:∀i (h:i < l.length),(f i).length=(g i l[i]).length)(a:AD R ((List.range n).flatMap f) (l.zipIdx.flatMap fun p=>g p.2 p.1)):∀i (h:i < l.length),AD R (f i) (g i l[i]):=by
 subst b
 rw[List.range_eq_range'] at a
 intro i h
 have:=Iq f g l 0 (fun i hi=>by rw[yy];exact c i hi) a i h
 rwa [yy] at this
theorem Fi{α β γ:Type}(f:Nat->List α)(g:Nat->γ->List β)(l:List γ)(n:Nat)(c:n=l.length)(d:∀i (h:i < l.length),(f i).length=(g i l[i]).length):((List.range n).flatMap f).length=(l.zipIdx.flatMap fun p=>g p.2 p.1).length:=
 AD.length (R:=fun _ _=>True) (B6 f g l n c (fun i h=>by
  have:∀(a:List α) (b:List β),a.length=b.length->AD (fun _ _=>True) a b:=by
   intro a
   induction a with
   |nil=>intro b hb;cases b with
    |nil=>trivial
    |cons=>simp at hb
   |cons x r ih=>intro b hb;cases b with
    |nil=>simp at hb
    |cons y s=>exact ⟨trivial,ih s (by simpa using hb)⟩
  exact this _ _ (d i h)))
def TK(E:Int->Ex->Nat->Nat->Prop)(a:Array Value)(e:Kc):Prop:=∃b o,a=#[.pointer (some ⟨b,o,none⟩),.int .i64 e.2]∧E e.2 e.1 b o
section
variable{N:NP}{E E':Int->Ex->Nat->Nat->Prop}{R:Int->Rf->Nat->Nat->Prop}{w:World}
theorem BJ{h:Aw}{g sz i c:Nat}{e:Ex}{lt:Int}(d:h.a=some ⟨g,0,none⟩)(f:TK E' #[h.ptr sz i c,.int .i64 lt] (e,lt)):E' lt e g (i*sz+c):=by
 obtain ⟨b,o,h1,h2⟩:=f
 unfold Aw.ptr at h1
 rw[AQ d,yy] at h1
 simp only[qB,xO,xX,yZ,qE,and_true] at h1
 obtain ⟨rfl,rfl⟩:=h1
 exact h2
theorem L3{s a b o:Nat}{lt:Int}{e:Ex}(h1:(#[.pointer (some ⟨s,a,none⟩),.int .i64 lt]:Array Value)=#[.pointer (some ⟨b,o,none⟩),.int .i64 lt])(h2:E' lt e b o):E' lt e s a:=by
 simp only[qB,xO,xX,yZ,qE,and_true] at h1
 obtain ⟨rfl,rfl⟩:=h1
 exact h2
theorem Cb.told{L:Bt}{x:Ar}(h:Cb N E R w L x)(c:AD (TK E') (BK L) (As x)):Cb N E' R w L x:=by
 unfold BK As at c
 obtain ⟨F,c⟩:=AD.split (l:=An (Ai L.s)) (m:=[(x.season,(0:Int)),(x.cap,0),(x.start,0)]) rfl c
 obtain ⟨D,c⟩:=AD.split (Fi _ (fun i (d:F9)=> [(d.value,1+(i:Int))]) x.lets _ h.lets.1 (fun _ _=>rfl)) c
 obtain ⟨K,c⟩:=AD.split (Fi _ (fun i (d:DO)=> [(d.need,(0:Int))]) x.crops _ h.crops.1 (fun _ _=>rfl)) c
 obtain ⟨G,c⟩:=AD.split (Fi _ (fun i (d:AE)=> [(d.delay,(0:Int)),(d.cap,0),(d.bank,0),(d.siphon,0),(d.evap0,0),(d.evap1,0),(d.seep0,0),(d.seep1,0)]) x.reaches _ h.reaches.1 (fun _ _=>rfl)) c
 obtain ⟨B,c⟩:=AD.split (Fi _ (fun i (d:CY)=> [(d.area,(0:Int))]) x.farms _ h.farms.1 (fun _ _=>rfl)) c
 have t:∀i (hi:i < x.rots.length),(An (Ee L.rots i)++BI (A2 L i) (A2 L i).n).length=([(x.rots[i].flow,(0:Int)),(x.rots[i].frm,0),(x.rots[i].to,0)]++Ek x.rots[i].turns).length:=fun i hi=>by
  obtain ⟨g,g1,a,ty,_,_,_,_,_,_,_,o⟩:=h.rots.2.2 i hi
  rw[yn,yn]
  congr 1
  exact Fi _ (fun k (d:Cs)=> [(d.len,(0:Int))]) x.rots[i].turns _ o.1 (fun _ _=>rfl)
 obtain ⟨J,c⟩:=AD.split (Fi _ (fun i (d:BG)=> [(d.flow,(0:Int)),(d.frm,0),(d.to,0)]++Ek d.turns) x.rots _ h.rots.1 t) c
 obtain ⟨S,Q⟩:=AD.split (Fi _ (fun i (d:AZ)=> [(d.flow,(0:Int)),(d.frm,0),(d.to,0),(d.every,0),(d.len,0)]) x.rights _ h.rights.1 (fun _ _=>rfl)) c
 have B1:=BN _ (fun i (d:F9)=> [(d.value,1+(i:Int))]) x.lets _ h.lets.1 (fun _ _=>rfl) D
 have B2:=BN _ (fun i (d:DO)=> [(d.need,(0:Int))]) x.crops _ h.crops.1 (fun _ _=>rfl) K
 have B3:=BN _ (fun i (d:AE)=> [(d.delay,(0:Int)),(d.cap,0),(d.bank,0),(d.siphon,0),(d.evap0,0),(d.evap1,0),(d.seep0,0),(d.seep1,0)]) x.reaches _ h.reaches.1 (fun _ _=>rfl) G
 have B4:=BN _ (fun i (d:CY)=> [(d.area,(0:Int))]) x.farms _ h.farms.1 (fun _ _=>rfl) B
 have B5:=BN _ (fun i (d:BG)=> [(d.flow,(0:Int)),(d.frm,0),(d.to,0)]++Ek d.turns) x.rots _ h.rots.1 t J
 have A:=BN _ (fun i (d:AZ)=> [(d.flow,(0:Int)),(d.frm,0),(d.to,0),(d.every,0),(d.len,0)]) x.rights _ h.rights.1 (fun _ _=>rfl) S
 have U:=BN _ (fun i (d:D9)=> [(d.due,(0:Int))]) x.duties _ h.duties.1 (fun _ _=>rfl) Q
 obtain ⟨⟨W,X,V,T⟩,⟨b1,o1,t1,H⟩,⟨b2,o2,t2,P⟩,_⟩:=F
 refine ⟨h.ty,h.name,L3 V T,L3 t1 H,L3 t2 P,h.hlets,h.hcrops,h.hreaches,h.hfarms,h.hrots,h.hrights,h.hduties,⟨h.lets.1,h.lets.2.1,fun i hi=>?_⟩,⟨h.crops.1,h.crops.2.1,fun i hi=>?_⟩,⟨h.reaches.1,h.reaches.2.1,fun i hi=>?_⟩,⟨h.farms.1,h.farms.2.1,fun i hi=>?_⟩,⟨h.rots.1,h.rots.2.1,fun i hi=>?_⟩,⟨h.rights.1,h.rights.2.1,fun i hi=>?_⟩,⟨h.duties.1,h.duties.2.1,fun i hi=>?_⟩⟩
 ·obtain ⟨g,g1,a,ty,b,_⟩:=h.lets.2.2 i hi
  exact ⟨g,g1,a,ty,b,BJ g1 (B1 i hi).1⟩
 ·obtain ⟨g,g1,a,ty,b,_⟩:=h.crops.2.2 i hi
  exact ⟨g,g1,a,ty,b,BJ g1 (B2 i hi).1⟩
 ·obtain ⟨g,g1,a,ty,b,e,_⟩:=h.reaches.2.2 i hi
  obtain ⟨f,p,r,v,y,M,z,O,_⟩:=B3 i hi
  exact ⟨g,g1,a,ty,b,e,BJ g1 f,BJ g1 p,BJ g1 r,BJ g1 v,BJ g1 y,BJ g1 M,BJ g1 z,BJ g1 O⟩
 ·obtain ⟨g,g1,a,ty,b,e,j,_,q⟩:=h.farms.2.2 i hi
  exact ⟨g,g1,a,ty,b,e,j,BJ g1 (B4 i hi).1,q⟩
 ·obtain ⟨g,g1,a,ty,b,e,j,_,_,_,q,o⟩:=h.rots.2.2 i hi
  obtain ⟨f,u⟩:=AD.split (l:=An (Ee L.rots i)) (m:=[(x.rots[i].flow,(0:Int)),(x.rots[i].frm,0),(x.rots[i].to,0)]) rfl (B5 i hi)
  obtain ⟨f,p,r,_⟩:=f
  have C:=BN _ (fun k (d:Cs)=> [(d.len,(0:Int))]) x.rots[i].turns _ o.1 (fun _ _=>rfl) u
  refine ⟨g,g1,a,ty,b,e,j,BJ g1 f,BJ g1 p,BJ g1 r,q,o.1,o.2.1,fun k u=>?_⟩
  obtain ⟨g,g1,a,ty,b,_⟩:=o.2.2 k u
  exact ⟨g,g1,a,ty,b,BJ g1 (C k u).1⟩
 ·obtain ⟨g,g1,a,ty,b,e,j,q,I,_⟩:=h.rights.2.2 i hi
  obtain ⟨f,p,r,v,y,_⟩:=A i hi
  exact ⟨g,g1,a,ty,b,e,j,q,I,BJ g1 f,BJ g1 p,BJ g1 r,BJ g1 v,BJ g1 y⟩
 ·obtain ⟨g,g1,a,ty,b,e,j,_⟩:=h.duties.2.2 i hi
  exact ⟨g,g1,a,ty,b,e,j,BJ g1 (U i hi).1⟩
end
def Gb(L:Bt)(k b o:Nat)(lt:Int):Prop:=(BK L)[k]?=some #[.pointer (some ⟨b,o,none⟩),.int .i64 lt]
structure Oz (N:Nat->Prop) (W4:World) (L:Bt) (x:Ar):Prop where
 epos:∀j b o lt,Gb L j b o lt->Gw W4 b o
 old:∀b,N b->b < W4.heap.size∧∀j o lt,¬ Gb L j b o lt
 val:∀j b o lt,Gb L j b o lt->∀h:j < (As x).length,∃c,W4.rangeAt b o c∧AI N W4 (As x)[j].1 c
structure OA (W4:World) (L:Bt) (x:Ar) (k:Nat) (O:Nat->Prop) (W:World):Prop where
 os:W.os=W4.os
 tape:W.tape=W4.tape
 output:W.output=W4.output
 size:W4.heap.size<=W.heap.size
 own:∀b,O b->W4.heap.size<=b
 cells:∀b q,b < W4.heap.size->(∀j o lt,j < k->Gb L j b o lt->q≠o+5)->W.cell? ⟨b,q,none⟩=W4.cell? ⟨b,q,none⟩
 ty:∀b t,Ty W4 b t->Ty W b t
 old:∀b,b < W4.heap.size->(∀j o lt,j < k->¬ Gb L j b o lt)->W.heap[b]?=W4.heap[b]?
 done:∃M:Nat->Prop,(∀b,M b->¬ O b∧W4.heap.size<=b∧b < W.heap.size)∧∀j b o lt,j < k->Gb L j b o lt->∀h:j < (As x).length,b < W4.heap.size∧∃a c,W.cell? ⟨b,o+5,none⟩=some (.slice a ((As x)[j].1).args.length c)∧DM W M a 0 ((As x)[j].1).args
section
variable{N:NP}{W4 W w':World}{L:Bt}{x:Ar}{k b o:Nat}{lt:Int}{O:NP}
theorem OA.start(W4:World)(L:Bt)(x:Ar):OA W4 L x 0 (fun _=>False) W4:=
 ⟨rfl,rfl,rfl,yf _,fun _ h=>h.elim,fun _ _ _ _=>rfl,fun _ _ h=>h,fun _ _ _=>rfl,fun _=>False,fun _ h=>h.elim,fun j _ _ _ a=>by omega⟩
theorem OA.stays:Cd (OA W4 L x):=by
 intro k O W C W' h r n A s m l
 have d:∀b,b < W4.heap.size->W'.heap[b]?=W.heap[b]?:=fun b hb=>m b (fun e=>by have:=h.own b e;omega) (yt hb h.size)
 obtain ⟨M,m1,p⟩:=h.done
 refine ⟨n.trans h.os,A.trans h.tape,s.trans h.output,yu h.size r,fun b hb=>?_,fun b q hb i=>(Ac (d b hb)).trans (h.cells b q hb i),fun b t hb=>(h.ty b t hb).same (d b hb.lt),fun b hb i=>(d b hb).trans (h.old b hb i),M,fun b hb=>?_,fun j b o lt B u v=>?_⟩
 ·rcases l b hb with h1|h1
  ·exact h.own b h1
  ·have:=h.size;omega
 ·obtain ⟨n1,n2,D⟩:=m1 b hb
  refine ⟨fun e=>?_,n2,by omega⟩
  rcases l b e with h1|h1
  ·exact n1 h1
  ·omega
 ·obtain ⟨f,a,c,w,z⟩:=p j b o lt B u v
  exact ⟨f,a,c,(Ac (d b f)).trans w,z.same (fun _ h _=>h) (fun c y g=>m c (m1 c y).1 g)⟩
theorem OA.read(g:Oz N W4 L x)(h:OA W4 L x k O W)(v:Gb L k b o lt)(P:k < (As x).length):
  ∃M:NP,(∀c,M c->N c∨(W4.heap.size<=c∧c < W.heap.size))∧∃cs,W.rangeAt b o cs∧AI M W (As x)[k].1 cs:=by
 obtain ⟨c,c1,c2⟩:=g.val k b o lt v P
 obtain ⟨a,cap,rfl,R,U,X⟩:=c2.cells
 obtain ⟨G,r1,r2,H,D,T⟩:=Br c1
 have s:=(g.epos k b o lt v).lt
 have hN:∀c,N c->W.heap[c]?=W4.heap[c]?:=fun c m=>h.old c (g.old c m).1 (fun j o lt _=>(g.old c m).2 j o lt)
 have d:∀i,i < 5->W.cell? (aV b (o+i))=W4.cell? (aV b (o+i)):=fun i hi=>h.cells b _ s (fun j A e _ f r=>by
  have:=(g.epos k b o lt v).uniq (g.epos j b A e f) (j:=i) (j':=5) (by omega) (by omega) r
  omega)
 obtain ⟨M,m1,J⟩:=h.done
 by_cases p:∃j e,j < k∧Gb L j b o e
 ·obtain ⟨j,e,C,f⟩:=p
  have t:j < (As x).length:=by omega
  obtain ⟨_,V,E,F,I⟩:=J j b o e C f t
  obtain ⟨K,B,l⟩:=g.val j b o e f t
  have w:K=[iV (As x)[k].1.op,iV (As x)[k].1.n,iV (As x)[k].1.u,.string (As x)[k].1.rn,iV (As x)[k].1.ri,.slice a (As x)[k].1.args.length cap]:=by
   refine xB (by rw[l.len];rfl) fun q S z=>?_
   have h1:=B q _ (yk S)
   have h2:=c1 q _ (yk z)
   rw[h1] at h2
   exact yi h2
  subst w
  have r:(As x)[j].1=(As x)[k].1:=Rr _ l c2
  rw[r] at F I
  refine ⟨fun c=>N c∨M c,fun c g=>g.imp id (fun y=>(m1 c y).2),_,A6 ((d 0 (by omega)).trans G) (A6 ((d 1 (by omega)).trans r1) (A6 ((d 2 (by omega)).trans r2) (A6 ((d 3 (by omega)).trans H) (A6 ((d 4 (by omega)).trans D) (BW F))))),AI.mk' R U (I.rowV (fun c y _=>.inr y))⟩
 ·have Q:W.cell? (aV b (o+5))=W4.cell? (aV b (o+5)):=h.cells b _ s (fun j A e C f r=>by
   have:=(g.epos k b o lt v).uniq (g.epos j b A e f) (j:=5) (j':=5) (by omega) (by omega) r
   obtain ⟨_,rfl⟩:=this
   exact p ⟨j,e,C,f⟩)
  exact ⟨N,fun c g=>.inl g,_,A6 ((d 0 (by omega)).trans G) (A6 ((d 1 (by omega)).trans r1) (A6 ((d 2 (by omega)).trans r2) (A6 ((d 3 (by omega)).trans H) (A6 ((d 4 (by omega)).trans D) (BW (Q.trans T)))))),c2.same (fun _ h=>h) hN⟩
theorem OA.next(F:Oz N W4 L x)(h:OA W4 L x k O W)(r:Gb L k b o lt)(Y:k < (As x).length)(u:∀b,O b->b < W.heap.size)(d:Xq W b o (As x)[k].1.args w'):OA W4 L x (k+1) O w'∧AN O W w':=by
 obtain ⟨l,T,s3,a,cap,s4,s5⟩:=d
 have K:=(F.epos k b o lt r).lt
 have V:=h.size
 have A:∀c,W4.heap.size<=c->c < W.heap.size->w'.heap[c]?=W.heap[c]?:=fun c h1 h2=>l.block c h2 (fun e=>by cases e;omega)
 obtain ⟨M,m1,U⟩:=h.done
 refine ⟨⟨l.os.trans h.os,l.tape.trans h.tape,l.output.trans h.output,yu V l.size,h.own,fun c q d n=>?_,fun c t P=>?_,fun c d n=>?_,fun c=>M c∨(W.heap.size<=c∧c < w'.heap.size),fun c m=>?_,fun j s C p Q f D=>?_⟩,l.size,fun c E=>A c (h.own c E) (u c E)⟩
 ·by_cases i:c=b
  ·subst i
   rw[T q (n k o lt (by omega) r),h.cells c q d (fun j o lt Q=>n j o lt (by omega))]
  ·rw[IY l (by omega) i,h.cells c q d (fun j o lt Q=>n j o lt (by omega))]
 ·by_cases i:c=b
  ·subst i;exact s3 t (h.ty c t P)
  ·exact (h.ty c t P).same (l.block c (h.ty c t P).lt (fun e=>i (by cases e;rfl)))
 ·have i:c≠b:=fun e=>n k o lt (by omega) (e▸r)
  rw[l.block c (by omega) (fun e=>i (by cases e;rfl)),h.old c d (fun j o lt Q=>n j o lt (by omega))]
 ·rcases m with m|m
  ·obtain ⟨n1,n2,n3⟩:=m1 c m
   exact ⟨n1,n2,by have:=l.size;omega⟩
  ·exact ⟨fun E=>by have:=u c E;omega,by omega,m.2⟩
 ·have B:DM w' (fun c=>M c∨(W.heap.size<=c∧c < w'.heap.size)) a 0 (As x)[k].1.args:=s5.same (fun c h1 h2=>.inr ⟨h1,h2⟩) (fun _ _ _=>rfl)
  by_cases g:s=b∧C=o
  ·obtain ⟨rfl,rfl⟩:=g
   obtain ⟨c,c1,c2⟩:=F.val k s C lt r Y
   obtain ⟨X,J,v⟩:=F.val j s C p f D
   have G:X=c:=by
    refine xB (by rw[v.len,c2.len]) fun q n I=>?_
    have h1:=J q _ (yk n)
    have h2:=c1 q _ (yk I)
    rw[h1] at h2
    exact yi h2
   subst G
   have Z:(As x)[j].1=(As x)[k].1:=Rr _ v c2
   rw[Z]
   exact ⟨K,a,cap,s4,B⟩
  ·have H:j < k:=by
    rcases zO j k with R|R
    ·exact R
    ·exfalso
     obtain rfl:j=k:=by omega
     unfold Gb at r f
     rw[r] at f
     simp only[yZ,qB,xO,xX,qE,and_true] at f
     exact g ⟨f.1.1.symm,f.1.2.symm⟩
   obtain ⟨w,a',z,S,d2⟩:=U j s C p H f D
   refine ⟨w,a',z,?_,d2.same (fun c m _=>.inl m) (fun c m d=>A c (m1 c m).2.1 d)⟩
   by_cases y:s=b
   ·subst y
    rw[T _ (fun e=>g ⟨rfl,by omega⟩)];exact S
   ·rw[IY l (by have:=(F.epos j s C p f).lt;omega) y];exact S
end
section
variable{N:NP}{E:Int->Ex->Nat->Nat->Prop}{R:Int->Rf->Nat->Nat->Prop}{w W:World}{L:Bt}{x:Ar}
theorem Cb.ok(h:Cb N E R w L x):L.Ok:=by
 refine ⟨h.lets.ok,h.crops.ok,h.reaches.ok,h.farms.ok,h.rots.ok,h.rights.ok,h.duties.ok,fun i hi=>?_⟩
 obtain ⟨_,_,_,_,_,_,_,_,_,_,_,a⟩:=h.rots.2.2 i (by rw[<-h.rots.1];exact hi)
 exact a.ok
theorem Cb.heads(h:Cb N E R w L x){Bs:Nat}(d:∀b o,Oo w b o->W.cell? ⟨b,o,none⟩=w.cell? ⟨b,o,none⟩)(c:W.cell? ⟨Bs,0,none⟩=some (.pointer (some ⟨L.s,0,none⟩))):IS L Bs W:=by
 have a:∀o,FD 35 o=0->W.cell? (aV L.s o)=w.cell? (aV L.s o):=fun o e=>d _ _ ⟨_,h.ty,e⟩
 refine ⟨c,(a _ rfl).trans h.hlets,(a _ rfl).trans h.hcrops,(a _ rfl).trans h.hreaches,(a _ rfl).trans h.hfarms,(a _ rfl).trans h.hrots,(a _ rfl).trans h.hrights,(a _ rfl).trans h.hduties,fun i hi=>?_⟩
 obtain ⟨g,g1,_,ty,_,_,_,_,_,_,f,_⟩:=h.rots.2.2 i (by rw[<-h.rots.1];exact hi)
 rw[AQ g1,yy]
 exact (d _ _ (DF ty FE i 22 rfl)).trans f
theorem Nq{cs:LV}(h:BH N w L cs x):∀v∈cs,v.oneCell'=true:=by
 obtain ⟨c0,c1,c2,rfl,b,g1,c⟩:=h.cells
 refine BZ rfl (AG (BA b) (AG (BA g1) (AG (BA c) ?_)))
 intro v a
 simp at a
 rcases a with rfl|rfl|rfl|rfl|rfl|rfl|rfl<;>rfl
theorem I1(h:AD (WM N E w) (BK L) (As x)){j b o:Nat}{lt:Int}(c:Gb L j b o lt):N b∧Gw w b o∧∀k:j < (As x).length,E (As x)[j].2 (As x)[j].1 b o:=by
 unfold Gb at c
 obtain ⟨d,e⟩:=yx.1 c
 have a:j < (As x).length:=by rw[<-h.length];exact d
 obtain ⟨i,g,h1,h2,h3,f⟩:=h.get j d a
 rw[e] at h1
 simp only[qB,xO,xX,yZ,qE,and_true] at h1
 obtain ⟨⟨rfl,rfl⟩,_⟩:=h1
 exact ⟨h2,h3,fun _=>f⟩
theorem TL(h:AD (WM N E w) (BK L) (As x)){j:Nat}(a:j < (BK L).length):∃b o lt,Gb L j b o lt:=by
 obtain ⟨b,o,h1,_⟩:=h.get j a (by rw[<-h.length];exact a)
 exact ⟨b,o,_,by unfold Gb;rw[yk a,h1]⟩
theorem Vf{W4:World}{O:NP}{B:NP}{A:NP}(h:AD (WM N E W4) (BK L) (As x))(p:Oz A W4 L x)(w:OA W4 L x (BK L).length O W)(C:∀b,W4.heap.size<=b->¬ O b->B b):
  AD (TK fun (_:Int) e b o=>∃c,W.rangeAt b o c∧Ih W B e c) (BK L) (As x):=by
 have g:∀(l:List (Array Value)) (m:List Kc),l.length=m.length->(∀i (h1:i < l.length) (h2:i < m.length),TK (fun (_:Int) e b o=>∃c,W.rangeAt b o c∧Ih W B e c) l[i] m[i])->AD (TK fun (_:Int) e b o=>∃c,W.rangeAt b o c∧Ih W B e c) l m:=by
  intro l
  induction l with
  |nil=>intro m f _;cases m with
   |nil=>trivial
   |cons=>simp at f
  |cons a l ih=>intro m f v;cases m with
   |nil=>simp at f
   |cons e m=>exact ⟨v 0 (by simp) (by simp),ih m (by simpa using f) (fun i h1 h2=>v (i+1) (by simpa using h1) (by simpa using h2))⟩
 refine g _ _ h.length fun i h1 h2=>?_
 obtain ⟨b,o,t,T,Q,X⟩:=h.get i h1 h2
 have k:Gb L i b o (As x)[i].2:=by unfold Gb;rw[yk h1,t]
 obtain ⟨M,m1,y⟩:=w.done
 obtain ⟨r,a,cap,F,J⟩:=y i b o _ h1 k h2
 obtain ⟨c,c1,c2⟩:=p.val i b o _ k h2
 obtain ⟨S,u,rfl,G,P,R⟩:=c2.cells
 obtain ⟨H,r1,r2,I,z,V⟩:=Br c1
 have d:∀q,q < 5->W.cell? (aV b (o+q))=W4.cell? (aV b (o+q)):=fun q U=>w.cells b _ r (fun j K n _ s D=>by
  have:=(p.epos i b o _ k).uniq (p.epos j b K n s) (j:=q) (j':=5) (by omega) (by omega) D
  omega)
 exact ⟨b,o,t,_,A6 ((d 0 (by omega)).trans H) (A6 ((d 1 (by omega)).trans r1) (A6 ((d 2 (by omega)).trans r2) (A6 ((d 3 (by omega)).trans I) (A6 ((d 4 (by omega)).trans z) (BW F))))),Ih.mk' G P (J.same (fun b hb _=>C b (m1 b hb).2.1 (m1 b hb).1) (fun _ _ _=>rfl))⟩
theorem I2{c:NP}{W4:World}{k:Nat}{O:NP}(f:Oz c W4 L x)(g:OA W4 L x k O W){b q:Nat}{t:Nat}(ty:Ty W4 b t)(a:FD t q≠1):W.cell? ⟨b,q,none⟩=W4.cell? ⟨b,q,none⟩:=
 g.cells b q ty.lt (fun j o lt _ d e=>by
  obtain ⟨h,h1,h2⟩:=f.epos j b o lt d
  obtain rfl:=ty.inj h1
  exact a (by rw[e];exact (h2 5 (by omega)).1))
end
end Go.Proofs.YtjofgpfocadomaaGreatDoor
namespace Go.Proofs.YtjofgpfocadomaaGreatDoor
open Go.RowKit
attribute [local go_sem] Oper.semAt_some
def ET(B:NP)(w:World)(_:Int)(e:Ex)(b o:Nat):Prop:=∃c,w.rangeAt b o c∧Ih w B e c
theorem Ns{fn:Func}{t:Tmp}{ty:TypeId}{tmps:Array Value}{P:Program}{w:World}{p:Addr}{v:Value}(h:fn.results=#[.cell t ty])(a:tmps.getD t undef=.pointer (some p))(b:(loadVar ty p).run P w=.ok v w):(results fn tmps).run P w=.ok v w:=by
 rw[yB] at a
 simp[results,h,a,asAddr,b]
def MK(w:World)(x:Ar)(e:Ending)(w':World):Prop:=
 ∃(L:Bt) (cs:LV),e=.returned (.agg cs.toArray)∧cs.length=26∧(∀v∈cs,v.oneCell'=true)∧Below w.heap.size w w'∧L.s=w.heap.size∧w'.rangeAt L.s 0 cs∧Cb (fun g=>w.heap.size<=g∧g≠w.heap.size+1) (ET (fun g=>w.heap.size+2<=g) w') (RV w') w' L x
theorem L5(W:World)(r:Option Nat):W.grownBy W r:=⟨rfl,rfl,rfl,yf _,fun _ _ _=>rfl⟩
theorem L6{W V:World}{r:Option Nat}(h:W.grownBy V r):W.grownBy V.drew r:=⟨h.os,h.tape,h.output,h.size,h.block⟩
theorem AS{W V U:World}{r:Option Nat}(h:W.grownBy V r)(k:V.grownBy U r):W.grownBy U r:=
 ⟨k.os.trans h.os,k.tape.trans h.tape,k.output.trans h.output,yu h.size k.size,fun b hb a=>(k.block b (yt hb h.size) a).trans (h.block b hb a)⟩
theorem BO{V U:World}{r:Option Nat}(h:Below V.heap.size V U):V.grownBy U r:=⟨h.os,h.tape,h.output,h.size,fun b hb _=>h.block b hb⟩
def MM{α:Type}:List α->Option Addr->Option Nat
 |[],_=>none
 |_::_,a=>a.map (·.block)
theorem Fj{α:Type}{l:List α}{i g:Nat}(h:i < l.length):MM l (some ⟨g,0,none⟩)=some g:=by
 cases l with
 |nil=>simp at h
 |cons x r=>rfl
structure WY (U:World) (a:Option Addr) (N:Nat->Prop) (w:World) (l:List BG) (hs:List Aw) (wr:World):Prop where
 grown:U.grownBy wr (MM l a)
 len:hs.length<=l.length
 ty:∀g,a=some ⟨g,0,none⟩->∀t,Ty U g t->Ty wr g t
 cells:∀g,a=some ⟨g,0,none⟩->∀q,(∀j,j < hs.length->q≠j*23+22)->wr.cell? ⟨g,q,none⟩=U.cell? ⟨g,q,none⟩
 done:∀j (_:j < hs.length) (_:j < l.length),GM U.heap.size wr 158 8 (FA N w) hs[j] l[j].turns∧∀g,a=some ⟨g,0,none⟩->wr.cell? ⟨g,j*23+22,none⟩=some hs[j].v
theorem MN{α:Type}{l:List α}{a:Option Addr}{b:Nat}(h:some b=MM l a):0 < l.length:=by
 cases l with
 |nil=>cases h
 |cons x r=>simp
theorem WY.next{U:World}{a:Option Addr}{N:NP}{w:World}{l:List BG}{hs:List Aw}{wr V y:World}{g:Nat}{p:Aw}{u:Value}(n:WY U a N w l hs wr)(hi:hs.length < l.length)(h:a=some ⟨g,0,none⟩)(M:g < U.heap.size)(hb:Below wr.heap.size wr V)
 (H:V.cell? ⟨g,hs.length*23+22,none⟩=some u)(hr:GM wr.heap.size V 158 8 (FA N w) p l[hs.length].turns)(I:y=V.setCell ⟨g,hs.length*23+22,none⟩ p.v):WY U a N w l (hs++[p]) y:=by
 obtain ⟨m,s,B,C⟩:=Ad p.v H
 rw[<-I] at m s B C
 have E:=n.grown.size
 have K:=hb.size
 have k:V.heap[g]?=wr.heap[g]?:=hb.block g (by omega)
 have d:∀q,V.cell? (aV g q)=wr.cell? (aV g q):=fun q=>by unfold World.cell?;rw[k]
 have o:MM l a=some g:=by rw[h];exact Fj hi
 refine ⟨?_,by simp;omega,fun r c t L=>?_,fun r c q D=>?_,fun j A F=>?_⟩
 ·rw[o]
  have h0:=n.grown
  rw[o] at h0
  exact AS (AS h0 (BO hb)) m
 ·rw[h] at c;cases c
  exact B t ((n.ty g h t L).same k)
 ·rw[h] at c;cases c
  rw[s q (D hs.length (by simp)),d,n.cells g h q (fun j A=>D j (by simp;omega))]
 ·by_cases x:j=hs.length
  ·subst x
   rw[xF (yf _)]
   simp only[Nat.sub_self,List.getElem_cons_zero]
   exact ⟨GM.of (hr.up (fun b z f=>m.block b f (fun e=>by cases e;omega))).1 E (hr.up (fun b z f=>m.block b f (fun e=>by cases e;omega))).2,fun r c=>by rw[h] at c;cases c;exact C⟩
  ·have i:j < hs.length:=by simp at A;omega
   rw[xG i]
   obtain ⟨G,J⟩:=n.done j i F
   refine ⟨G.up (fun b z f=>(m.block b (by omega) (fun e=>by cases e;omega)).trans (hb.block b f)),fun r c=>?_⟩
   rw[h] at c;cases c
   rw[s _ (by omega),d,J g h]
theorem TN{N:NP}{w:World}{t:Aw}{cs:LV}{d:BG}(h:H8 N w t cs d):BF N w 8 (FA N w) t d.turns:=by
 obtain ⟨_,_,_,_,_,_,_,_,_,h⟩:=h
 exact h
theorem TO{N:NP}{w:World}{L:Bt}(cs:LV)(d:BG × Nat)(h:H8 N w (A2 L d.2) cs d.1):∀v∈cs,v.oneCell'=true:=IV h
theorem TP{N:NP}{w W:World}{L:Bt}{l:List BG}(h:L.rots.n=l.length∧l.length<=140737488355328∧∀i (hi:i < l.length),∃b o cs,L.rots.a=some ⟨b,o,none⟩∧N b∧cs.length=23∧w.rangeAt b (o+i*23) cs∧H8 N w (A2 L i) cs l[i])(hb:∀b,N b->W.heap[b]?=w.heap[b]?):
  BF N W 23 (fun cs (d:BG × Nat)=>H8 N w (A2 L d.2) cs d.1) L.rots l.zipIdx:=by
 obtain ⟨h1,h2,h3⟩:=h
 refine ⟨by rw[zF];exact h1,by rw[zF];exact h2,fun i hi=>?_⟩
 rw[zF] at hi
 obtain ⟨b,o,cs,g1,c,g,f,e⟩:=h3 i hi
 refine ⟨b,o,cs,g1,c,g,A0 f (hb b c),?_⟩
 rw[qr]
 simpa using e
theorem Qo{N:NP}{w:World}{L:Bt}{cs:LV}{x:Ar}(h:BH N w L cs x)(hN:∀b,N b->b < w.heap.size)(f8:Kf x):
  Calls Tryz.prog 67 #[.agg cs.toArray] w (MK w x):=by
 obtain ⟨c0,c1,c2,rfl,g0,g1,g2⟩:=h.cells
 obtain ⟨a0,p0,rfl,e0⟩:=g0.cells
 obtain ⟨a1,p1,rfl,e1⟩:=g1.cells
 obtain ⟨a2,p2,rfl,e2⟩:=g2.cells
 have HV:=yb h
 have HN:=yb hN
 have b4:=yb f8
 have gn:=yb g0;have gr:=yb g1;have gc:=yb g2
 clear h hN f8 g0 g1 g2 e0 e1 e2
 unfold Aw.v
 simp only[yK,yQ]
 refine Bg (n:=10) Tryz.func67 rfl ?_
 simp only[Tryz.ntmps67,yM,yz,yH,Nat.reduceAdd,Nat.reduceSub,zD,zE,zR,zK,yQ,yK]
 refine A9 (A4 ?_)
 go_wp2
 have f5:Below w.heap.size w ((w.alloc (.cells #[.string x.name,iV x.season.op,iV x.season.n,iV x.season.u,.string x.season.rn,iV x.season.ri,.slice a0 x.season.args.length p0,iV x.cap.op,iV x.cap.n,iV x.cap.u,.string x.cap.rn,iV x.cap.ri,.slice a1 x.cap.args.length p1,iV x.start.op,iV x.start.n,iV x.start.u,.string x.start.rn,iV x.start.ri,.slice a2 x.start.args.length p2,.slice L.lets.a L.lets.n L.lets.c,.slice L.crops.a L.crops.n L.crops.c,.slice L.reaches.a L.reaches.n L.reaches.c,.slice L.farms.a L.farms.n L.farms.c,.slice L.rots.a L.rots.n L.rots.c,.slice L.rights.a L.rights.n L.rights.c,.slice L.duties.a L.duties.n L.duties.c] 35)).alloc (.cells #[.string ⟨#[]⟩,iV 0,iV 0,iV 0,.string ⟨#[]⟩,iV 0,.slice none 0 0,iV 0,iV 0,iV 0,.string ⟨#[]⟩,iV 0,.slice none 0 0,iV 0,iV 0,iV 0,.string ⟨#[]⟩,iV 0,.slice none 0 0,.slice none 0 0,.slice none 0 0,.slice none 0 0,.slice none 0 0,.slice none 0 0,.slice none 0 0,.slice none 0 0] 35)):=((yg _ _).alloc (yf _) _).alloc (by simp) _
 have f9:((w.alloc (.cells #[.string x.name,iV x.season.op,iV x.season.n,iV x.season.u,.string x.season.rn,iV x.season.ri,.slice a0 x.season.args.length p0,iV x.cap.op,iV x.cap.n,iV x.cap.u,.string x.cap.rn,iV x.cap.ri,.slice a1 x.cap.args.length p1,iV x.start.op,iV x.start.n,iV x.start.u,.string x.start.rn,iV x.start.ri,.slice a2 x.start.args.length p2,.slice L.lets.a L.lets.n L.lets.c,.slice L.crops.a L.crops.n L.crops.c,.slice L.reaches.a L.reaches.n L.reaches.c,.slice L.farms.a L.farms.n L.farms.c,.slice L.rots.a L.rots.n L.rots.c,.slice L.rights.a L.rights.n L.rights.c,.slice L.duties.a L.duties.n L.duties.c] 35)).alloc (.cells #[.string ⟨#[]⟩,iV 0,iV 0,iV 0,.string ⟨#[]⟩,iV 0,.slice none 0 0,iV 0,iV 0,iV 0,.string ⟨#[]⟩,iV 0,.slice none 0 0,iV 0,iV 0,iV 0,.string ⟨#[]⟩,iV 0,.slice none 0 0,.slice none 0 0,.slice none 0 0,.slice none 0 0,.slice none 0 0,.slice none 0 0,.slice none 0 0,.slice none 0 0] 35)).heap[w.heap.size]?=some (.cells #[.string x.name,iV x.season.op,iV x.season.n,iV x.season.u,.string x.season.rn,iV x.season.ri,.slice a0 x.season.args.length p0,iV x.cap.op,iV x.cap.n,iV x.cap.u,.string x.cap.rn,iV x.cap.ri,.slice a1 x.cap.args.length p1,iV x.start.op,iV x.start.n,iV x.start.u,.string x.start.rn,iV x.start.ri,.slice a2 x.start.args.length p2,.slice L.lets.a L.lets.n L.lets.c,.slice L.crops.a L.crops.n L.crops.c,.slice L.reaches.a L.reaches.n L.reaches.c,.slice L.farms.a L.farms.n L.farms.c,.slice L.rots.a L.rots.n L.rots.c,.slice L.rights.a L.rights.n L.rights.c,.slice L.duties.a L.duties.n L.duties.c] 35 (0,0)):=(yA _ _ _ (by simp)).trans (World.alloc_heap_new w _)
 have fg:((w.alloc (.cells #[.string x.name,iV x.season.op,iV x.season.n,iV x.season.u,.string x.season.rn,iV x.season.ri,.slice a0 x.season.args.length p0,iV x.cap.op,iV x.cap.n,iV x.cap.u,.string x.cap.rn,iV x.cap.ri,.slice a1 x.cap.args.length p1,iV x.start.op,iV x.start.n,iV x.start.u,.string x.start.rn,iV x.start.ri,.slice a2 x.start.args.length p2,.slice L.lets.a L.lets.n L.lets.c,.slice L.crops.a L.crops.n L.crops.c,.slice L.reaches.a L.reaches.n L.reaches.c,.slice L.farms.a L.farms.n L.farms.c,.slice L.rots.a L.rots.n L.rots.c,.slice L.rights.a L.rights.n L.rights.c,.slice L.duties.a L.duties.n L.duties.c] 35)).alloc (.cells #[.string ⟨#[]⟩,iV 0,iV 0,iV 0,.string ⟨#[]⟩,iV 0,.slice none 0 0,iV 0,iV 0,iV 0,.string ⟨#[]⟩,iV 0,.slice none 0 0,iV 0,iV 0,iV 0,.string ⟨#[]⟩,iV 0,.slice none 0 0,.slice none 0 0,.slice none 0 0,.slice none 0 0,.slice none 0 0,.slice none 0 0,.slice none 0 0,.slice none 0 0] 35)).heap[w.heap.size+1]?=some (.cells #[.string ⟨#[]⟩,iV 0,iV 0,iV 0,.string ⟨#[]⟩,iV 0,.slice none 0 0,iV 0,iV 0,iV 0,.string ⟨#[]⟩,iV 0,.slice none 0 0,iV 0,iV 0,iV 0,.string ⟨#[]⟩,iV 0,.slice none 0 0,.slice none 0 0,.slice none 0 0,.slice none 0 0,.slice none 0 0,.slice none 0 0,.slice none 0 0,.slice none 0 0] 35 (0,0)):=by
  have:=World.alloc_heap_new (w.alloc (.cells #[.string x.name,iV x.season.op,iV x.season.n,iV x.season.u,.string x.season.rn,iV x.season.ri,.slice a0 x.season.args.length p0,iV x.cap.op,iV x.cap.n,iV x.cap.u,.string x.cap.rn,iV x.cap.ri,.slice a1 x.cap.args.length p1,iV x.start.op,iV x.start.n,iV x.start.u,.string x.start.rn,iV x.start.ri,.slice a2 x.start.args.length p2,.slice L.lets.a L.lets.n L.lets.c,.slice L.crops.a L.crops.n L.crops.c,.slice L.reaches.a L.reaches.n L.reaches.c,.slice L.farms.a L.farms.n L.farms.c,.slice L.rots.a L.rots.n L.rots.c,.slice L.rights.a L.rights.n L.rights.c,.slice L.duties.a L.duties.n L.duties.c] 35)) (.cells #[.string ⟨#[]⟩,iV 0,iV 0,iV 0,.string ⟨#[]⟩,iV 0,.slice none 0 0,iV 0,iV 0,iV 0,.string ⟨#[]⟩,iV 0,.slice none 0 0,iV 0,iV 0,iV 0,.string ⟨#[]⟩,iV 0,.slice none 0 0,.slice none 0 0,.slice none 0 0,.slice none 0 0,.slice none 0 0,.slice none 0 0,.slice none 0 0,.slice none 0 0] 35)
  rwa [z6] at this
 have fx:((w.alloc (.cells #[.string x.name,iV x.season.op,iV x.season.n,iV x.season.u,.string x.season.rn,iV x.season.ri,.slice a0 x.season.args.length p0,iV x.cap.op,iV x.cap.n,iV x.cap.u,.string x.cap.rn,iV x.cap.ri,.slice a1 x.cap.args.length p1,iV x.start.op,iV x.start.n,iV x.start.u,.string x.start.rn,iV x.start.ri,.slice a2 x.start.args.length p2,.slice L.lets.a L.lets.n L.lets.c,.slice L.crops.a L.crops.n L.crops.c,.slice L.reaches.a L.reaches.n L.reaches.c,.slice L.farms.a L.farms.n L.farms.c,.slice L.rots.a L.rots.n L.rots.c,.slice L.rights.a L.rights.n L.rights.c,.slice L.duties.a L.duties.n L.duties.c] 35)).alloc (.cells #[.string ⟨#[]⟩,iV 0,iV 0,iV 0,.string ⟨#[]⟩,iV 0,.slice none 0 0,iV 0,iV 0,iV 0,.string ⟨#[]⟩,iV 0,.slice none 0 0,iV 0,iV 0,iV 0,.string ⟨#[]⟩,iV 0,.slice none 0 0,.slice none 0 0,.slice none 0 0,.slice none 0 0,.slice none 0 0,.slice none 0 0,.slice none 0 0,.slice none 0 0] 35)).heap.size=w.heap.size+2:=by simp
 generalize (w.alloc (.cells #[.string x.name,iV x.season.op,iV x.season.n,iV x.season.u,.string x.season.rn,iV x.season.ri,.slice a0 x.season.args.length p0,iV x.cap.op,iV x.cap.n,iV x.cap.u,.string x.cap.rn,iV x.cap.ri,.slice a1 x.cap.args.length p1,iV x.start.op,iV x.start.n,iV x.start.u,.string x.start.rn,iV x.start.ri,.slice a2 x.start.args.length p2,.slice L.lets.a L.lets.n L.lets.c,.slice L.crops.a L.crops.n L.crops.c,.slice L.reaches.a L.reaches.n L.reaches.c,.slice L.farms.a L.farms.n L.farms.c,.slice L.rots.a L.rots.n L.rots.c,.slice L.rights.a L.rights.n L.rights.c,.slice L.duties.a L.duties.n L.duties.c] 35)).alloc (.cells #[.string ⟨#[]⟩,iV 0,iV 0,iV 0,.string ⟨#[]⟩,iV 0,.slice none 0 0,iV 0,iV 0,iV 0,.string ⟨#[]⟩,iV 0,.slice none 0 0,iV 0,iV 0,iV 0,.string ⟨#[]⟩,iV 0,.slice none 0 0,.slice none 0 0,.slice none 0 0,.slice none 0 0,.slice none 0 0,.slice none 0 0,.slice none 0 0,.slice none 0 0] 35)=W1 at*
 have co:=yb f5;have gl:=yb f9;have gy:=yb fg;have aa:=yb fx
 clear f5 f9 fg fx
 have bq:Hid (∀W,W1.grownBy W (some w.heap.size)->∀b,N b->W.heap[b]?=w.heap[b]?):=yb (fun W hW b hb=>(hW.block b (by have:=HN.o b hb;have:=aa.o;omega) (fun e=>by cases e;have:=HN.o _ hb;omega)).trans (co.o.block b (HN.o b hb)))
 have bk:Hid (∀W,W1.grownBy W (some w.heap.size)->∀b,N b->b < W.heap.size):=yb (fun W hW b hb=>by have:=HN.o b hb;have:=aa.o;have:=hW.size;omega)
 have g3:Hid (W1.grownBy W1 (some w.heap.size)):=yb (L5 _ _)
 refine A9 (A4 ?_)
 refine wp_region_noPanic ?_
 have g6:W1.drew.heap[w.heap.size]?=some (.cells #[.string x.name,iV x.season.op,iV x.season.n,iV x.season.u,.string x.season.rn,iV x.season.ri,.slice a0 x.season.args.length p0,iV x.cap.op,iV x.cap.n,iV x.cap.u,.string x.cap.rn,iV x.cap.ri,.slice a1 x.cap.args.length p1,iV x.start.op,iV x.start.n,iV x.start.u,.string x.start.rn,iV x.start.ri,.slice a2 x.start.args.length p2,.slice L.lets.a L.lets.n L.lets.c,.slice L.crops.a L.crops.n L.crops.c,.slice L.reaches.a L.reaches.n L.reaches.c,.slice L.farms.a L.farms.n L.farms.c,.slice L.rots.a L.rots.n L.rots.c,.slice L.rights.a L.rights.n L.rights.c,.slice L.duties.a L.duties.n L.duties.c] 35 (0,0)):=gl.o
 have bp:=yb g6
 clear g6
 refine Di (by kernel_rfl) (fun W=>W.heap[w.heap.size]?=some (.cells #[.string x.name,iV x.season.op,iV x.season.n,iV x.season.u,.string x.season.rn,iV x.season.ri,.slice a0 x.season.args.length p0,iV x.cap.op,iV x.cap.n,iV x.cap.u,.string x.cap.rn,iV x.cap.ri,.slice a1 x.cap.args.length p1,iV x.start.op,iV x.start.n,iV x.start.u,.string x.start.rn,iV x.start.ri,.slice a2 x.start.args.length p2,.slice L.lets.a L.lets.n L.lets.c,.slice L.crops.a L.crops.n L.crops.c,.slice L.reaches.a L.reaches.n L.reaches.c,.slice L.farms.a L.farms.n L.farms.c,.slice L.rots.a L.rots.n L.rots.c,.slice L.rights.a L.rights.n L.rights.c,.slice L.duties.a L.duties.n L.duties.c] 35 (0,0))) 13 ?_
 refine Af (i:=0) (v:=pV w.heap.size 19) rfl (by kernel_rfl) (by kernel_rfl) (by kernel_rfl) (fun _ _ _ h=>h) (by kernel_rfl) (Or.inl ⟨by rfl,?_⟩) (fun _=>bp.o) ?_
 ·intro w _;go_simp
 refine AO (i:=1) (v:=.slice L.lets.a L.lets.n L.lets.c) rfl (by kernel_rfl) (by kernel_rfl) (by kernel_rfl) (fun _ _ _ h=>h) (by kernel_rfl) (Or.inl ⟨by rfl,?_⟩) bp.o ?_
 ·intro W hW
  have hc:W.cell? (aV w.heap.size 19)=some (.slice L.lets.a L.lets.n L.lets.c):=by simp only[World.cell?,hW];rfl
  clear hW
  go_simp
 refine Af (i:=3) (v:=pV w.heap.size 20) rfl (by kernel_rfl) (by kernel_rfl) (by kernel_rfl) (fun _ _ _ h=>h) (by kernel_rfl) (Or.inl ⟨by rfl,?_⟩) (fun _=>bp.o) ?_
 ·intro w _;go_simp
 refine AO (i:=4) (v:=.slice L.crops.a L.crops.n L.crops.c) rfl (by kernel_rfl) (by kernel_rfl) (by kernel_rfl) (fun _ _ _ h=>h) (by kernel_rfl) (Or.inl ⟨by rfl,?_⟩) bp.o ?_
 ·intro W hW
  have hc:W.cell? (aV w.heap.size 20)=some (.slice L.crops.a L.crops.n L.crops.c):=by simp only[World.cell?,hW];rfl
  clear hW
  go_simp
 refine Af (i:=6) (v:=pV w.heap.size 21) rfl (by kernel_rfl) (by kernel_rfl) (by kernel_rfl) (fun _ _ _ h=>h) (by kernel_rfl) (Or.inl ⟨by rfl,?_⟩) (fun _=>bp.o) ?_
 ·intro w _;go_simp
 refine AO (i:=7) (v:=.slice L.reaches.a L.reaches.n L.reaches.c) rfl (by kernel_rfl) (by kernel_rfl) (by kernel_rfl) (fun _ _ _ h=>h) (by kernel_rfl) (Or.inl ⟨by rfl,?_⟩) bp.o ?_
 ·intro W hW
  have hc:W.cell? (aV w.heap.size 21)=some (.slice L.reaches.a L.reaches.n L.reaches.c):=by simp only[World.cell?,hW];rfl
  clear hW
  go_simp
 refine Af (i:=9) (v:=pV w.heap.size 22) rfl (by kernel_rfl) (by kernel_rfl) (by kernel_rfl) (fun _ _ _ h=>h) (by kernel_rfl) (Or.inl ⟨by rfl,?_⟩) (fun _=>bp.o) ?_
 ·intro w _;go_simp
 refine AO (i:=10) (v:=.slice L.farms.a L.farms.n L.farms.c) rfl (by kernel_rfl) (by kernel_rfl) (by kernel_rfl) (fun _ _ _ h=>h) (by kernel_rfl) (Or.inl ⟨by rfl,?_⟩) bp.o ?_
 ·intro W hW
  have hc:W.cell? (aV w.heap.size 22)=some (.slice L.farms.a L.farms.n L.farms.c):=by simp only[World.cell?,hW];rfl
  clear hW
  go_simp
 have bi:Hid (W1.grownBy W1.drew (some w.heap.size)):=yb (L6 g3.o)
 refine Ag (i:=2) (by kernel_rfl) rfl (fun K hK=>?_)
 go_simp
 refine (Sr (HV.o.lets.same (fun _ h=>h) (bq.o _ bi.o) (fun _ _ h=>h)) (bk.o _ bi.o) Rp b4.o.lets).mono ?_
 rintro e dn ⟨⟨a7,a6,Z⟩,rfl,bo,bt,az⟩
 rw[show Aw.v ⟨a7,a6,Z⟩=Value.slice a7 a6 Z from rfl]
 simp only at bo az
 have ba:Hid (W1.grownBy dn (some w.heap.size)):=yb (AS bi.o (BO bt))
 have cy:Hid (dn.heap[w.heap.size]?=some (.cells #[.string x.name,iV x.season.op,iV x.season.n,iV x.season.u,.string x.season.rn,iV x.season.ri,.slice a0 x.season.args.length p0,iV x.cap.op,iV x.cap.n,iV x.cap.u,.string x.cap.rn,iV x.cap.ri,.slice a1 x.cap.args.length p1,iV x.start.op,iV x.start.n,iV x.start.u,.string x.start.rn,iV x.start.ri,.slice a2 x.start.args.length p2,.slice L.lets.a L.lets.n L.lets.c,.slice L.crops.a L.crops.n L.crops.c,.slice L.reaches.a L.reaches.n L.reaches.c,.slice L.farms.a L.farms.n L.farms.c,.slice L.rots.a L.rots.n L.rots.c,.slice L.rights.a L.rights.n L.rights.c,.slice L.duties.a L.duties.n L.duties.c] 35 (0,0))):=yb ((bt.block _ (by have:=bi.o.size;have:=aa.o;omega)).trans bp.o)
 have E:Hid (GM W1.heap.size dn 50 7 (H7 N w) ⟨a7,a6,Z⟩ x.lets):=yb (GM.of bo (by exact bi.o.size) az)
 clear bo bt az
 refine hK.o _ _ (fun _=>cy.o) ?_
 clear hK K
 refine Ag (i:=5) (by kernel_rfl) rfl (fun K hK=>?_)
 go_simp
 refine (Qd (HV.o.crops.same (fun _ h=>h) (bq.o _ ba.o) (fun _ _ h=>h)) (bk.o _ ba.o) Oq b4.o.crops).mono ?_
 rintro e ec ⟨⟨H,G,F⟩,rfl,b8,ar,ao⟩
 rw[show Aw.v ⟨H,G,F⟩=Value.slice H G F from rfl]
 simp only at b8 ao
 have bh:Hid (W1.grownBy ec (some w.heap.size)):=yb (AS ba.o (BO ar))
 have d7:Hid (ec.heap[w.heap.size]?=some (.cells #[.string x.name,iV x.season.op,iV x.season.n,iV x.season.u,.string x.season.rn,iV x.season.ri,.slice a0 x.season.args.length p0,iV x.cap.op,iV x.cap.n,iV x.cap.u,.string x.cap.rn,iV x.cap.ri,.slice a1 x.cap.args.length p1,iV x.start.op,iV x.start.n,iV x.start.u,.string x.start.rn,iV x.start.ri,.slice a2 x.start.args.length p2,.slice L.lets.a L.lets.n L.lets.c,.slice L.crops.a L.crops.n L.crops.c,.slice L.reaches.a L.reaches.n L.reaches.c,.slice L.farms.a L.farms.n L.farms.c,.slice L.rots.a L.rots.n L.rots.c,.slice L.rights.a L.rights.n L.rights.c,.slice L.duties.a L.duties.n L.duties.c] 35 (0,0))):=yb ((ar.block _ (by have:=ba.o.size;have:=aa.o;omega)).trans cy.o)
 replace E:=yb (E.o.up (fun b _ f=>ar.block b f))
 have C:Hid (GM W1.heap.size ec 92 7 (Il N w) ⟨H,G,F⟩ x.crops):=yb (GM.of b8 (by exact ba.o.size) ao)
 clear b8 ar ao
 refine hK.o _ _ (fun _=>d7.o) ?_
 clear hK K
 refine Ag (i:=8) (by kernel_rfl) rfl (fun K hK=>?_)
 go_simp
 refine (Ov (HV.o.reaches.same (fun _ h=>h) (bq.o _ bh.o) (fun _ _ h=>h)) (bk.o _ bh.o) Js b4.o.reaches).mono ?_
 rintro e dw ⟨⟨y,l,m⟩,rfl,ap,ag,ak⟩
 rw[show Aw.v ⟨y,l,m⟩=Value.slice y l m from rfl]
 simp only at ap ak
 have be:Hid (W1.grownBy dw (some w.heap.size)):=yb (AS bh.o (BO ag))
 have d5:Hid (dw.heap[w.heap.size]?=some (.cells #[.string x.name,iV x.season.op,iV x.season.n,iV x.season.u,.string x.season.rn,iV x.season.ri,.slice a0 x.season.args.length p0,iV x.cap.op,iV x.cap.n,iV x.cap.u,.string x.cap.rn,iV x.cap.ri,.slice a1 x.cap.args.length p1,iV x.start.op,iV x.start.n,iV x.start.u,.string x.start.rn,iV x.start.ri,.slice a2 x.start.args.length p2,.slice L.lets.a L.lets.n L.lets.c,.slice L.crops.a L.crops.n L.crops.c,.slice L.reaches.a L.reaches.n L.reaches.c,.slice L.farms.a L.farms.n L.farms.c,.slice L.rots.a L.rots.n L.rots.c,.slice L.rights.a L.rights.n L.rights.c,.slice L.duties.a L.duties.n L.duties.c] 35 (0,0))):=yb ((ag.block _ (by have:=bh.o.size;have:=aa.o;omega)).trans d7.o)
 replace E:=yb (E.o.up (fun b _ f=>ag.block b f))
 replace C:=yb (C.o.up (fun b _ f=>ag.block b f))
 have A:Hid (GM W1.heap.size dw 66 51 (Fa N w) ⟨y,l,m⟩ x.reaches):=yb (GM.of ap (by exact bh.o.size) ak)
 clear ap ag ak
 refine hK.o _ _ (fun _=>d5.o) ?_
 clear hK K
 refine Ag (i:=11) (by kernel_rfl) rfl (fun K hK=>?_)
 go_simp
 refine (Qe (HV.o.farms.same (fun _ h=>h) (bq.o _ be.o) (fun _ _ h=>h)) (bk.o _ be.o) Ot b4.o.farms).mono ?_
 rintro e bv ⟨⟨T,nfarms,S⟩,rfl,bd,ai,aq⟩
 rw[show Aw.v ⟨T,nfarms,S⟩=Value.slice T nfarms S from rfl]
 simp only at bd aq
 have e8:Hid (W1.grownBy bv (some w.heap.size)):=yb (AS be.o (BO ai))
 have av:Hid (bv.heap[w.heap.size]?=some (.cells #[.string x.name,iV x.season.op,iV x.season.n,iV x.season.u,.string x.season.rn,iV x.season.ri,.slice a0 x.season.args.length p0,iV x.cap.op,iV x.cap.n,iV x.cap.u,.string x.cap.rn,iV x.cap.ri,.slice a1 x.cap.args.length p1,iV x.start.op,iV x.start.n,iV x.start.u,.string x.start.rn,iV x.start.ri,.slice a2 x.start.args.length p2,.slice L.lets.a L.lets.n L.lets.c,.slice L.crops.a L.crops.n L.crops.c,.slice L.reaches.a L.reaches.n L.reaches.c,.slice L.farms.a L.farms.n L.farms.c,.slice L.rots.a L.rots.n L.rots.c,.slice L.rights.a L.rights.n L.rights.c,.slice L.duties.a L.duties.n L.duties.c] 35 (0,0))):=yb ((ai.block _ (by have:=be.o.size;have:=aa.o;omega)).trans d5.o)
 replace E:=yb (E.o.up (fun b _ f=>ai.block b f))
 replace C:=yb (C.o.up (fun b _ f=>ai.block b f))
 replace A:=yb (A.o.up (fun b _ f=>ai.block b f))
 have X:Hid (GM W1.heap.size bv 94 12 (Im N w) ⟨T,nfarms,S⟩ x.farms):=yb (GM.of bd (by exact be.o.size) aq)
 clear bd ai aq
 refine hK.o _ _ (fun _=>av.o) ?_
 clear hK K
 refine Af (i:=12) (v:=pV w.heap.size 19) rfl (by kernel_rfl) (by kernel_rfl) (by kernel_rfl) (fun _ _ _ h=>h) (by kernel_rfl) (Or.inl ⟨by rfl,?_⟩) (by first|exact fun _=>av.o|(intro h;cases h)) ?_
 ·intro w _;go_simp
 refine Ag (i:=13) (by kernel_rfl) rfl (fun K hK=>?_)
 have hc:bv.cell? (aV w.heap.size 19)=some (.slice L.lets.a L.lets.n L.lets.c):=by simp only[World.cell?,av.o];rfl
 have hf:bv.frozen? (aV w.heap.size 19)=false:=by simp[World.frozen?,av.o]
 go_simp
 have c8:Hid ((bv.setCell (aV w.heap.size 19) (.slice a7 a6 Z)).heap[w.heap.size]?=some (.cells #[.string x.name,iV x.season.op,iV x.season.n,iV x.season.u,.string x.season.rn,iV x.season.ri,.slice a0 x.season.args.length p0,iV x.cap.op,iV x.cap.n,iV x.cap.u,.string x.cap.rn,iV x.cap.ri,.slice a1 x.cap.args.length p1,iV x.start.op,iV x.start.n,iV x.start.u,.string x.start.rn,iV x.start.ri,.slice a2 x.start.args.length p2,.slice a7 a6 Z,.slice L.crops.a L.crops.n L.crops.c,.slice L.reaches.a L.reaches.n L.reaches.c,.slice L.farms.a L.farms.n L.farms.c,.slice L.rots.a L.rots.n L.rots.c,.slice L.rights.a L.rights.n L.rights.c,.slice L.duties.a L.duties.n L.duties.c] 35 (0,0))):=yb (by
  have:=zr bv w.heap.size 19 _ _ (.slice a7 a6 Z) av.o
  rw[this];rfl)
 replace E:=yb (E.o.up (fun b hB f=>(Ad (.slice a7 a6 Z) hc).1.block b f (fun e=>by cases e;have:=aa.o;omega)))
 replace C:=yb (C.o.up (fun b hB f=>(Ad (.slice a7 a6 Z) hc).1.block b f (fun e=>by cases e;have:=aa.o;omega)))
 replace A:=yb (A.o.up (fun b hB f=>(Ad (.slice a7 a6 Z) hc).1.block b f (fun e=>by cases e;have:=aa.o;omega)))
 replace X:=yb (X.o.up (fun b hB f=>(Ad (.slice a7 a6 Z) hc).1.block b f (fun e=>by cases e;have:=aa.o;omega)))
 have eo:=yb (AS e8.o (Ad (.slice a7 a6 Z) hc).1)
 clear hc hf
 generalize bv.setCell (aV w.heap.size 19) (.slice a7 a6 Z)=cp at*
 refine hK.o _ _ (by first|(intro h;cases h;done)|exact fun _=>av.o) ?_
 clear hK K
 refine Af (i:=14) (v:=pV w.heap.size 20) rfl (by kernel_rfl) (by kernel_rfl) (by kernel_rfl) (fun _ _ _ h=>h) (by kernel_rfl) (Or.inl ⟨by rfl,?_⟩) (by first|exact fun _=>c8.o|(intro h;cases h)) ?_
 ·intro w _;go_simp
 refine Ag (i:=15) (by kernel_rfl) rfl (fun K hK=>?_)
 have hc:cp.cell? (aV w.heap.size 20)=some (.slice L.crops.a L.crops.n L.crops.c):=by simp only[World.cell?,c8.o];rfl
 have hf:cp.frozen? (aV w.heap.size 20)=false:=by simp[World.frozen?,c8.o]
 go_simp
 have bz:Hid ((cp.setCell (aV w.heap.size 20) (.slice H G F)).heap[w.heap.size]?=some (.cells #[.string x.name,iV x.season.op,iV x.season.n,iV x.season.u,.string x.season.rn,iV x.season.ri,.slice a0 x.season.args.length p0,iV x.cap.op,iV x.cap.n,iV x.cap.u,.string x.cap.rn,iV x.cap.ri,.slice a1 x.cap.args.length p1,iV x.start.op,iV x.start.n,iV x.start.u,.string x.start.rn,iV x.start.ri,.slice a2 x.start.args.length p2,.slice a7 a6 Z,.slice H G F,.slice L.reaches.a L.reaches.n L.reaches.c,.slice L.farms.a L.farms.n L.farms.c,.slice L.rots.a L.rots.n L.rots.c,.slice L.rights.a L.rights.n L.rights.c,.slice L.duties.a L.duties.n L.duties.c] 35 (0,0))):=yb (by
  have:=zr cp w.heap.size 20 _ _ (.slice H G F) c8.o
  rw[this];rfl)
 replace E:=yb (E.o.up (fun b hB f=>(Ad (.slice H G F) hc).1.block b f (fun e=>by cases e;have:=aa.o;omega)))
 replace C:=yb (C.o.up (fun b hB f=>(Ad (.slice H G F) hc).1.block b f (fun e=>by cases e;have:=aa.o;omega)))
 replace A:=yb (A.o.up (fun b hB f=>(Ad (.slice H G F) hc).1.block b f (fun e=>by cases e;have:=aa.o;omega)))
 replace X:=yb (X.o.up (fun b hB f=>(Ad (.slice H G F) hc).1.block b f (fun e=>by cases e;have:=aa.o;omega)))
 have fj:=yb (AS eo.o (Ad (.slice H G F) hc).1)
 clear hc hf
 generalize cp.setCell (aV w.heap.size 20) (.slice H G F)=d2 at*
 refine hK.o _ _ (by first|(intro h;cases h;done)|exact fun _=>c8.o) ?_
 clear hK K
 refine Af (i:=16) (v:=pV w.heap.size 21) rfl (by kernel_rfl) (by kernel_rfl) (by kernel_rfl) (fun _ _ _ h=>h) (by kernel_rfl) (Or.inl ⟨by rfl,?_⟩) (by first|exact fun _=>bz.o|(intro h;cases h)) ?_
 ·intro w _;go_simp
 refine Ag (i:=17) (by kernel_rfl) rfl (fun K hK=>?_)
 have hc:d2.cell? (aV w.heap.size 21)=some (.slice L.reaches.a L.reaches.n L.reaches.c):=by simp only[World.cell?,bz.o];rfl
 have hf:d2.frozen? (aV w.heap.size 21)=false:=by simp[World.frozen?,bz.o]
 go_simp
 have bu:Hid ((d2.setCell (aV w.heap.size 21) (.slice y l m)).heap[w.heap.size]?=some (.cells #[.string x.name,iV x.season.op,iV x.season.n,iV x.season.u,.string x.season.rn,iV x.season.ri,.slice a0 x.season.args.length p0,iV x.cap.op,iV x.cap.n,iV x.cap.u,.string x.cap.rn,iV x.cap.ri,.slice a1 x.cap.args.length p1,iV x.start.op,iV x.start.n,iV x.start.u,.string x.start.rn,iV x.start.ri,.slice a2 x.start.args.length p2,.slice a7 a6 Z,.slice H G F,.slice y l m,.slice L.farms.a L.farms.n L.farms.c,.slice L.rots.a L.rots.n L.rots.c,.slice L.rights.a L.rights.n L.rights.c,.slice L.duties.a L.duties.n L.duties.c] 35 (0,0))):=yb (by
  have:=zr d2 w.heap.size 21 _ _ (.slice y l m) bz.o
  rw[this];rfl)
 replace E:=yb (E.o.up (fun b hB f=>(Ad (.slice y l m) hc).1.block b f (fun e=>by cases e;have:=aa.o;omega)))
 replace C:=yb (C.o.up (fun b hB f=>(Ad (.slice y l m) hc).1.block b f (fun e=>by cases e;have:=aa.o;omega)))
 replace A:=yb (A.o.up (fun b hB f=>(Ad (.slice y l m) hc).1.block b f (fun e=>by cases e;have:=aa.o;omega)))
 replace X:=yb (X.o.up (fun b hB f=>(Ad (.slice y l m) hc).1.block b f (fun e=>by cases e;have:=aa.o;omega)))
 have ez:=yb (AS fj.o (Ad (.slice y l m) hc).1)
 clear hc hf
 generalize d2.setCell (aV w.heap.size 21) (.slice y l m)=d0 at*
 refine hK.o _ _ (by first|(intro h;cases h;done)|exact fun _=>bz.o) ?_
 clear hK K
 refine Af (i:=18) (v:=pV w.heap.size 22) rfl (by kernel_rfl) (by kernel_rfl) (by kernel_rfl) (fun _ _ _ h=>h) (by kernel_rfl) (Or.inl ⟨by rfl,?_⟩) (by first|exact fun _=>bu.o|(intro h;cases h)) ?_
 ·intro w _;go_simp
 refine Ag (i:=19) (by kernel_rfl) rfl (fun K hK=>?_)
 have hc:d0.cell? (aV w.heap.size 22)=some (.slice L.farms.a L.farms.n L.farms.c):=by simp only[World.cell?,bu.o];rfl
 have hf:d0.frozen? (aV w.heap.size 22)=false:=by simp[World.frozen?,bu.o]
 go_simp
 have fh:Hid ((d0.setCell (aV w.heap.size 22) (.slice T nfarms S)).heap[w.heap.size]?=some (.cells #[.string x.name,iV x.season.op,iV x.season.n,iV x.season.u,.string x.season.rn,iV x.season.ri,.slice a0 x.season.args.length p0,iV x.cap.op,iV x.cap.n,iV x.cap.u,.string x.cap.rn,iV x.cap.ri,.slice a1 x.cap.args.length p1,iV x.start.op,iV x.start.n,iV x.start.u,.string x.start.rn,iV x.start.ri,.slice a2 x.start.args.length p2,.slice a7 a6 Z,.slice H G F,.slice y l m,.slice T nfarms S,.slice L.rots.a L.rots.n L.rots.c,.slice L.rights.a L.rights.n L.rights.c,.slice L.duties.a L.duties.n L.duties.c] 35 (0,0))):=yb (by
  have:=zr d0 w.heap.size 22 _ _ (.slice T nfarms S) bu.o
  rw[this];rfl)
 replace E:=yb (E.o.up (fun b hB f=>(Ad (.slice T nfarms S) hc).1.block b f (fun e=>by cases e;have:=aa.o;omega)))
 replace C:=yb (C.o.up (fun b hB f=>(Ad (.slice T nfarms S) hc).1.block b f (fun e=>by cases e;have:=aa.o;omega)))
 replace A:=yb (A.o.up (fun b hB f=>(Ad (.slice T nfarms S) hc).1.block b f (fun e=>by cases e;have:=aa.o;omega)))
 replace X:=yb (X.o.up (fun b hB f=>(Ad (.slice T nfarms S) hc).1.block b f (fun e=>by cases e;have:=aa.o;omega)))
 have em:=yb (AS ez.o (Ad (.slice T nfarms S) hc).1)
 clear hc hf
 generalize d0.setCell (aV w.heap.size 22) (.slice T nfarms S)=fi at*
 refine hK.o _ _ (by first|(intro h;cases h;done)|exact fun _=>bu.o) ?_
 clear hK K
 refine Dh (by kernel_rfl) ?_
 refine NoPanic.normal ?_
 simp only[Exit.then]
 refine A9 (A4 ?_)
 refine wp_region_noPanic ?_
 have ep:fi.drew.heap[w.heap.size]?=some (.cells #[.string x.name,iV x.season.op,iV x.season.n,iV x.season.u,.string x.season.rn,iV x.season.ri,.slice a0 x.season.args.length p0,iV x.cap.op,iV x.cap.n,iV x.cap.u,.string x.cap.rn,iV x.cap.ri,.slice a1 x.cap.args.length p1,iV x.start.op,iV x.start.n,iV x.start.u,.string x.start.rn,iV x.start.ri,.slice a2 x.start.args.length p2,.slice a7 a6 Z,.slice H G F,.slice y l m,.slice T nfarms S,.slice L.rots.a L.rots.n L.rots.c,.slice L.rights.a L.rights.n L.rights.c,.slice L.duties.a L.duties.n L.duties.c] 35 (0,0)):=fh.o
 have ch:=yb ep
 clear ep
 refine Di (by kernel_rfl) (fun W=>W.heap[w.heap.size]?=some (.cells #[.string x.name,iV x.season.op,iV x.season.n,iV x.season.u,.string x.season.rn,iV x.season.ri,.slice a0 x.season.args.length p0,iV x.cap.op,iV x.cap.n,iV x.cap.u,.string x.cap.rn,iV x.cap.ri,.slice a1 x.cap.args.length p1,iV x.start.op,iV x.start.n,iV x.start.u,.string x.start.rn,iV x.start.ri,.slice a2 x.start.args.length p2,.slice a7 a6 Z,.slice H G F,.slice y l m,.slice T nfarms S,.slice L.rots.a L.rots.n L.rots.c,.slice L.rights.a L.rights.n L.rights.c,.slice L.duties.a L.duties.n L.duties.c] 35 (0,0))) 10 ?_
 refine Af (i:=0) (v:=pV w.heap.size 23) rfl (by kernel_rfl) (by kernel_rfl) (by kernel_rfl) (fun _ _ _ h=>h) (by kernel_rfl) (Or.inl ⟨by rfl,?_⟩) (fun _=>ch.o) ?_
 ·intro w _;go_simp
 refine AO (i:=1) (v:=.slice L.rots.a L.rots.n L.rots.c) rfl (by kernel_rfl) (by kernel_rfl) (by kernel_rfl) (fun _ _ _ h=>h) (by kernel_rfl) (Or.inl ⟨by rfl,?_⟩) ch.o ?_
 ·intro W hW
  have hc:W.cell? (aV w.heap.size 23)=some (.slice L.rots.a L.rots.n L.rots.c):=by simp only[World.cell?,hW];rfl
  clear hW
  go_simp
 refine Af (i:=3) (v:=pV w.heap.size 24) rfl (by kernel_rfl) (by kernel_rfl) (by kernel_rfl) (fun _ _ _ h=>h) (by kernel_rfl) (Or.inl ⟨by rfl,?_⟩) (fun _=>ch.o) ?_
 ·intro w _;go_simp
 refine AO (i:=4) (v:=.slice L.rights.a L.rights.n L.rights.c) rfl (by kernel_rfl) (by kernel_rfl) (by kernel_rfl) (fun _ _ _ h=>h) (by kernel_rfl) (Or.inl ⟨by rfl,?_⟩) ch.o ?_
 ·intro W hW
  have hc:W.cell? (aV w.heap.size 24)=some (.slice L.rights.a L.rights.n L.rights.c):=by simp only[World.cell?,hW];rfl
  clear hW
  go_simp
 refine Af (i:=6) (v:=pV w.heap.size 25) rfl (by kernel_rfl) (by kernel_rfl) (by kernel_rfl) (fun _ _ _ h=>h) (by kernel_rfl) (Or.inl ⟨by rfl,?_⟩) (fun _=>ch.o) ?_
 ·intro w _;go_simp
 refine AO (i:=7) (v:=.slice L.duties.a L.duties.n L.duties.c) rfl (by kernel_rfl) (by kernel_rfl) (by kernel_rfl) (fun _ _ _ h=>h) (by kernel_rfl) (Or.inl ⟨by rfl,?_⟩) ch.o ?_
 ·intro W hW
  have hc:W.cell? (aV w.heap.size 25)=some (.slice L.duties.a L.duties.n L.duties.c):=by simp only[World.cell?,hW];rfl
  clear hW
  go_simp
 have b7:Hid (W1.grownBy fi.drew (some w.heap.size)):=yb (L6 em.o)
 refine Ag (i:=2) (by kernel_rfl) rfl (fun K hK=>?_)
 go_simp
 refine (Ss (Q:=(fun cs (d:BG × Nat)=>H8 N w (A2 L d.2) cs d.1)) (TP (HV.o.rots) (bq.o _ b7.o)) (bk.o _ b7.o) TO (by rw[zF];exact b4.o.rots)).mono ?_
 rintro e ed ⟨⟨a8,nrots,Y⟩,rfl,bn,aj,b0⟩
 rw[show Aw.v ⟨a8,nrots,Y⟩=Value.slice a8 nrots Y from rfl]
 simp only at bn b0
 have bb:Hid (W1.grownBy ed (some w.heap.size)):=yb (AS b7.o (BO aj))
 have d9:Hid (ed.heap[w.heap.size]?=some (.cells #[.string x.name,iV x.season.op,iV x.season.n,iV x.season.u,.string x.season.rn,iV x.season.ri,.slice a0 x.season.args.length p0,iV x.cap.op,iV x.cap.n,iV x.cap.u,.string x.cap.rn,iV x.cap.ri,.slice a1 x.cap.args.length p1,iV x.start.op,iV x.start.n,iV x.start.u,.string x.start.rn,iV x.start.ri,.slice a2 x.start.args.length p2,.slice a7 a6 Z,.slice H G F,.slice y l m,.slice T nfarms S,.slice L.rots.a L.rots.n L.rots.c,.slice L.rights.a L.rights.n L.rights.c,.slice L.duties.a L.duties.n L.duties.c] 35 (0,0))):=yb ((aj.block _ (by have:=b7.o.size;have:=aa.o;omega)).trans ch.o)
 replace E:=yb (E.o.up (fun b _ f=>aj.block b f))
 replace C:=yb (C.o.up (fun b _ f=>aj.block b f))
 replace A:=yb (A.o.up (fun b _ f=>aj.block b f))
 replace X:=yb (X.o.up (fun b _ f=>aj.block b f))
 have ab:Hid (GM W1.heap.size ed 109 23 (fun cs (d:BG × Nat)=>H8 N w (A2 L d.2) cs d.1) ⟨a8,nrots,Y⟩ x.rots.zipIdx):=yb (GM.of bn (by exact b7.o.size) b0)
 clear bn aj b0
 refine hK.o _ _ (fun _=>d9.o) ?_
 clear hK K
 refine Ag (i:=5) (by kernel_rfl) rfl (fun K hK=>?_)
 go_simp
 refine (Ow (HV.o.rights.same (fun _ h=>h) (bq.o _ bb.o) (fun _ _ h=>h)) (bk.o _ bb.o) Jt b4.o.rights).mono ?_
 rintro e dz ⟨⟨I,nrights,J⟩,rfl,aw,af,am⟩
 rw[show Aw.v ⟨I,nrights,J⟩=Value.slice I nrights J from rfl]
 simp only at aw am
 have bg:Hid (W1.grownBy dz (some w.heap.size)):=yb (AS bb.o (BO af))
 have cv:Hid (dz.heap[w.heap.size]?=some (.cells #[.string x.name,iV x.season.op,iV x.season.n,iV x.season.u,.string x.season.rn,iV x.season.ri,.slice a0 x.season.args.length p0,iV x.cap.op,iV x.cap.n,iV x.cap.u,.string x.cap.rn,iV x.cap.ri,.slice a1 x.cap.args.length p1,iV x.start.op,iV x.start.n,iV x.start.u,.string x.start.rn,iV x.start.ri,.slice a2 x.start.args.length p2,.slice a7 a6 Z,.slice H G F,.slice y l m,.slice T nfarms S,.slice L.rots.a L.rots.n L.rots.c,.slice L.rights.a L.rights.n L.rights.c,.slice L.duties.a L.duties.n L.duties.c] 35 (0,0))):=yb ((af.block _ (by have:=bb.o.size;have:=aa.o;omega)).trans d9.o)
 replace E:=yb (E.o.up (fun b _ f=>af.block b f))
 replace C:=yb (C.o.up (fun b _ f=>af.block b f))
 replace A:=yb (A.o.up (fun b _ f=>af.block b f))
 replace X:=yb (X.o.up (fun b _ f=>af.block b f))
 replace ab:=yb (ab.o.up (fun b _ f=>af.block b f))
 have ac:Hid (GM W1.heap.size dz 131 37 (Fb N w) ⟨I,nrights,J⟩ x.rights):=yb (GM.of aw (by exact bb.o.size) am)
 clear aw af am
 refine hK.o _ _ (fun _=>cv.o) ?_
 clear hK K
 refine Ag (i:=8) (by kernel_rfl) rfl (fun K hK=>?_)
 go_simp
 refine (Qf (HV.o.duties.same (fun _ h=>h) (bq.o _ bg.o) (fun _ _ h=>h)) (bk.o _ bg.o) Ou b4.o.duties).mono ?_
 rintro e c9 ⟨⟨R,nduties,P⟩,rfl,ax,ad,al⟩
 rw[show Aw.v ⟨R,nduties,P⟩=Value.slice R nduties P from rfl]
 simp only at ax al
 have dp:Hid (W1.grownBy c9 (some w.heap.size)):=yb (AS bg.o (BO ad))
 have au:Hid (c9.heap[w.heap.size]?=some (.cells #[.string x.name,iV x.season.op,iV x.season.n,iV x.season.u,.string x.season.rn,iV x.season.ri,.slice a0 x.season.args.length p0,iV x.cap.op,iV x.cap.n,iV x.cap.u,.string x.cap.rn,iV x.cap.ri,.slice a1 x.cap.args.length p1,iV x.start.op,iV x.start.n,iV x.start.u,.string x.start.rn,iV x.start.ri,.slice a2 x.start.args.length p2,.slice a7 a6 Z,.slice H G F,.slice y l m,.slice T nfarms S,.slice L.rots.a L.rots.n L.rots.c,.slice L.rights.a L.rights.n L.rights.c,.slice L.duties.a L.duties.n L.duties.c] 35 (0,0))):=yb ((ad.block _ (by have:=bg.o.size;have:=aa.o;omega)).trans cv.o)
 replace E:=yb (E.o.up (fun b _ f=>ad.block b f))
 replace C:=yb (C.o.up (fun b _ f=>ad.block b f))
 replace A:=yb (A.o.up (fun b _ f=>ad.block b f))
 replace X:=yb (X.o.up (fun b _ f=>ad.block b f))
 replace ab:=yb (ab.o.up (fun b _ f=>ad.block b f))
 replace ac:=yb (ac.o.up (fun b _ f=>ad.block b f))
 have ae:Hid (GM W1.heap.size c9 135 11 (Io N w) ⟨R,nduties,P⟩ x.duties):=yb (GM.of ax (by exact bg.o.size) al)
 clear ax ad al
 refine hK.o _ _ (fun _=>au.o) ?_
 clear hK K
 refine Af (i:=9) (v:=pV w.heap.size 23) rfl (by kernel_rfl) (by kernel_rfl) (by kernel_rfl) (fun _ _ _ h=>h) (by kernel_rfl) (Or.inl ⟨by rfl,?_⟩) (by first|exact fun _=>au.o|(intro h;cases h)) ?_
 ·intro w _;go_simp
 refine Ag (i:=10) (by kernel_rfl) rfl (fun K hK=>?_)
 have hc:c9.cell? (aV w.heap.size 23)=some (.slice L.rots.a L.rots.n L.rots.c):=by simp only[World.cell?,au.o];rfl
 have hf:c9.frozen? (aV w.heap.size 23)=false:=by simp[World.frozen?,au.o]
 go_simp
 have bw:Hid ((c9.setCell (aV w.heap.size 23) (.slice a8 nrots Y)).heap[w.heap.size]?=some (.cells #[.string x.name,iV x.season.op,iV x.season.n,iV x.season.u,.string x.season.rn,iV x.season.ri,.slice a0 x.season.args.length p0,iV x.cap.op,iV x.cap.n,iV x.cap.u,.string x.cap.rn,iV x.cap.ri,.slice a1 x.cap.args.length p1,iV x.start.op,iV x.start.n,iV x.start.u,.string x.start.rn,iV x.start.ri,.slice a2 x.start.args.length p2,.slice a7 a6 Z,.slice H G F,.slice y l m,.slice T nfarms S,.slice a8 nrots Y,.slice L.rights.a L.rights.n L.rights.c,.slice L.duties.a L.duties.n L.duties.c] 35 (0,0))):=yb (by
  have:=zr c9 w.heap.size 23 _ _ (.slice a8 nrots Y) au.o
  rw[this];rfl)
 replace E:=yb (E.o.up (fun b hB f=>(Ad (.slice a8 nrots Y) hc).1.block b f (fun e=>by cases e;have:=aa.o;omega)))
 replace C:=yb (C.o.up (fun b hB f=>(Ad (.slice a8 nrots Y) hc).1.block b f (fun e=>by cases e;have:=aa.o;omega)))
 replace A:=yb (A.o.up (fun b hB f=>(Ad (.slice a8 nrots Y) hc).1.block b f (fun e=>by cases e;have:=aa.o;omega)))
 replace X:=yb (X.o.up (fun b hB f=>(Ad (.slice a8 nrots Y) hc).1.block b f (fun e=>by cases e;have:=aa.o;omega)))
 replace ab:=yb (ab.o.up (fun b hB f=>(Ad (.slice a8 nrots Y) hc).1.block b f (fun e=>by cases e;have:=aa.o;omega)))
 replace ac:=yb (ac.o.up (fun b hB f=>(Ad (.slice a8 nrots Y) hc).1.block b f (fun e=>by cases e;have:=aa.o;omega)))
 replace ae:=yb (ae.o.up (fun b hB f=>(Ad (.slice a8 nrots Y) hc).1.block b f (fun e=>by cases e;have:=aa.o;omega)))
 have g7:=yb (AS dp.o (Ad (.slice a8 nrots Y) hc).1)
 clear hc hf
 generalize c9.setCell (aV w.heap.size 23) (.slice a8 nrots Y)=d1 at*
 refine hK.o _ _ (by first|(intro h;cases h;done)|exact fun _=>au.o) ?_
 clear hK K
 refine Af (i:=11) (v:=pV w.heap.size 24) rfl (by kernel_rfl) (by kernel_rfl) (by kernel_rfl) (fun _ _ _ h=>h) (by kernel_rfl) (Or.inl ⟨by rfl,?_⟩) (by first|exact fun _=>bw.o|(intro h;cases h)) ?_
 ·intro w _;go_simp
 refine Ag (i:=12) (by kernel_rfl) rfl (fun K hK=>?_)
 have hc:d1.cell? (aV w.heap.size 24)=some (.slice L.rights.a L.rights.n L.rights.c):=by simp only[World.cell?,bw.o];rfl
 have hf:d1.frozen? (aV w.heap.size 24)=false:=by simp[World.frozen?,bw.o]
 go_simp
 have cc:Hid ((d1.setCell (aV w.heap.size 24) (.slice I nrights J)).heap[w.heap.size]?=some (.cells #[.string x.name,iV x.season.op,iV x.season.n,iV x.season.u,.string x.season.rn,iV x.season.ri,.slice a0 x.season.args.length p0,iV x.cap.op,iV x.cap.n,iV x.cap.u,.string x.cap.rn,iV x.cap.ri,.slice a1 x.cap.args.length p1,iV x.start.op,iV x.start.n,iV x.start.u,.string x.start.rn,iV x.start.ri,.slice a2 x.start.args.length p2,.slice a7 a6 Z,.slice H G F,.slice y l m,.slice T nfarms S,.slice a8 nrots Y,.slice I nrights J,.slice L.duties.a L.duties.n L.duties.c] 35 (0,0))):=yb (by
  have:=zr d1 w.heap.size 24 _ _ (.slice I nrights J) bw.o
  rw[this];rfl)
 replace E:=yb (E.o.up (fun b hB f=>(Ad (.slice I nrights J) hc).1.block b f (fun e=>by cases e;have:=aa.o;omega)))
 replace C:=yb (C.o.up (fun b hB f=>(Ad (.slice I nrights J) hc).1.block b f (fun e=>by cases e;have:=aa.o;omega)))
 replace A:=yb (A.o.up (fun b hB f=>(Ad (.slice I nrights J) hc).1.block b f (fun e=>by cases e;have:=aa.o;omega)))
 replace X:=yb (X.o.up (fun b hB f=>(Ad (.slice I nrights J) hc).1.block b f (fun e=>by cases e;have:=aa.o;omega)))
 replace ab:=yb (ab.o.up (fun b hB f=>(Ad (.slice I nrights J) hc).1.block b f (fun e=>by cases e;have:=aa.o;omega)))
 replace ac:=yb (ac.o.up (fun b hB f=>(Ad (.slice I nrights J) hc).1.block b f (fun e=>by cases e;have:=aa.o;omega)))
 replace ae:=yb (ae.o.up (fun b hB f=>(Ad (.slice I nrights J) hc).1.block b f (fun e=>by cases e;have:=aa.o;omega)))
 have eu:=yb (AS g7.o (Ad (.slice I nrights J) hc).1)
 clear hc hf
 generalize d1.setCell (aV w.heap.size 24) (.slice I nrights J)=d3 at*
 refine hK.o _ _ (by first|(intro h;cases h;done)|exact fun _=>bw.o) ?_
 clear hK K
 refine Af (i:=13) (v:=pV w.heap.size 25) rfl (by kernel_rfl) (by kernel_rfl) (by kernel_rfl) (fun _ _ _ h=>h) (by kernel_rfl) (Or.inl ⟨by rfl,?_⟩) (by first|exact fun _=>cc.o|(intro h;cases h)) ?_
 ·intro w _;go_simp
 refine Ag (i:=14) (by kernel_rfl) rfl (fun K hK=>?_)
 have hc:d3.cell? (aV w.heap.size 25)=some (.slice L.duties.a L.duties.n L.duties.c):=by simp only[World.cell?,cc.o];rfl
 have hf:d3.frozen? (aV w.heap.size 25)=false:=by simp[World.frozen?,cc.o]
 go_simp
 have g5:Hid ((d3.setCell (aV w.heap.size 25) (.slice R nduties P)).heap[w.heap.size]?=some (.cells #[.string x.name,iV x.season.op,iV x.season.n,iV x.season.u,.string x.season.rn,iV x.season.ri,.slice a0 x.season.args.length p0,iV x.cap.op,iV x.cap.n,iV x.cap.u,.string x.cap.rn,iV x.cap.ri,.slice a1 x.cap.args.length p1,iV x.start.op,iV x.start.n,iV x.start.u,.string x.start.rn,iV x.start.ri,.slice a2 x.start.args.length p2,.slice a7 a6 Z,.slice H G F,.slice y l m,.slice T nfarms S,.slice a8 nrots Y,.slice I nrights J,.slice R nduties P] 35 (0,0))):=yb (by
  have:=zr d3 w.heap.size 25 _ _ (.slice R nduties P) cc.o
  rw[this];rfl)
 replace E:=yb (E.o.up (fun b hB f=>(Ad (.slice R nduties P) hc).1.block b f (fun e=>by cases e;have:=aa.o;omega)))
 replace C:=yb (C.o.up (fun b hB f=>(Ad (.slice R nduties P) hc).1.block b f (fun e=>by cases e;have:=aa.o;omega)))
 replace A:=yb (A.o.up (fun b hB f=>(Ad (.slice R nduties P) hc).1.block b f (fun e=>by cases e;have:=aa.o;omega)))
 replace X:=yb (X.o.up (fun b hB f=>(Ad (.slice R nduties P) hc).1.block b f (fun e=>by cases e;have:=aa.o;omega)))
 replace ab:=yb (ab.o.up (fun b hB f=>(Ad (.slice R nduties P) hc).1.block b f (fun e=>by cases e;have:=aa.o;omega)))
 replace ac:=yb (ac.o.up (fun b hB f=>(Ad (.slice R nduties P) hc).1.block b f (fun e=>by cases e;have:=aa.o;omega)))
 replace ae:=yb (ae.o.up (fun b hB f=>(Ad (.slice R nduties P) hc).1.block b f (fun e=>by cases e;have:=aa.o;omega)))
 have ew:=yb (AS eu.o (Ad (.slice R nduties P) hc).1)
 clear hc hf
 generalize d3.setCell (aV w.heap.size 25) (.slice R nduties P)=ge at*
 refine hK.o _ _ (by first|(intro h;cases h;done)|exact fun _=>cc.o) ?_
 clear hK K
 refine Dh (by kernel_rfl) ?_
 refine NoPanic.normal ?_
 simp only[Exit.then]
 obtain ⟨U,rfl⟩:∃z:World,z=ge:=⟨_,rfl⟩
 have HQ:=yb g5.o
 have HP:=yb ew.o
 have eb:nrots=x.rots.length:=by have:=ab.o.1;simp only[zF] at this;exact this
 have gt:nrots<=100000:=by rw[eb];exact b4.o.rots
 have df:=yb eb
 clear eb
 have ck:U.cell? (aV w.heap.size 23)=some (.slice a8 nrots Y):=by simp only[World.cell?,HQ.o];rfl
 refine A9 (A4 ?_)
 go_wp2
 clear ck
 go_loopw [37] (fun iv wr=>∃hs:List Aw,hs.length<=nrots∧iv=iV (hs.length:Int)∧Hid (WY U a8 N w x.rots hs wr)) (fun iv _=>nrots - (intOf iv).toNat)
 case atStart=>exact ⟨[],yI _,rfl,yb ⟨L5 _ _,yI _,fun _ _ _ h=>h,fun _ _ _ _=>rfl,fun j hj=>by simp at hj⟩⟩
 case round=>
  obtain ⟨hs,hi,rfl,ah⟩:=hrel
  obtain ⟨i,cl⟩:∃i,i=hs.length:=⟨_,rfl⟩
  rw[<-cl] at hi ⊢
  by_cases f:i < nrots
  ·have gj:i < x.rots.zipIdx.length:=by rw[zF,<-df.o];exact f
   have cj:i < x.rots.length:=by rw[<-df.o];exact f
   obtain ⟨g,cs,ha,fm,cf,ay,fs,d8⟩:=ab.o.2 i gj
   simp only at ha
   subst ha
   rw[qr] at d8
   simp only[yy] at d8
   have cx:=Mz d8 ay
   have hz:=aa.o
   have f4:wr.cell? (aV g (i*23+22))=some (.slice (A2 L i).a (A2 L i).n (A2 L i).c):=(ah.o.cells g rfl _ (fun j hj=>by omega)).trans (fs 22 _ cx)
   have g4:wr.heap[w.heap.size]?=some (.cells #[.string x.name,iV x.season.op,iV x.season.n,iV x.season.u,.string x.season.rn,iV x.season.ri,.slice a0 x.season.args.length p0,iV x.cap.op,iV x.cap.n,iV x.cap.u,.string x.cap.rn,iV x.cap.ri,.slice a1 x.cap.args.length p1,iV x.start.op,iV x.start.n,iV x.start.u,.string x.start.rn,iV x.start.ri,.slice a2 x.start.args.length p2,.slice a7 a6 Z,.slice H G F,.slice y l m,.slice T nfarms S,.slice (some (aV g 0)) nrots Y,.slice I nrights J,.slice R nduties P] 35 (0,0)):=(ah.o.grown.block _ (by have:=HP.o.size;omega) (fun e=>by rw[Fj cj] at e;cases e;omega)).trans HQ.o
   have fz:∀V:World,Below wr.heap.size wr V->V.frozen? (aV g (i*23+22))=false:=fun V hV=>(Ty.same (ah.o.ty g rfl _ cf) (hV.block g (yt cf.lt ah.o.grown.size))).frozen
   have cq:=TN d8
   have et:∀b,N b->wr.heap[b]?=w.heap[b]?:=fun b hb=>(ah.o.grown.block b (bk.o _ HP.o b hb) (fun e=>by rw[Fj cj] at e;cases e;have:=HN.o _ hb;omega)).trans (bq.o _ HP.o b hb)
   have ey:∀b,N b->b < wr.drew.heap.size:=fun b hb=>yt (bk.o _ HP.o b hb) ah.o.grown.size
   have de:=yb (Qg (w:=wr.drew) (cq.same (fun _ h=>h) et (fun _ _ h=>h)) ey TH (b4.o.turns _ (yJ cj)))
   have bj:Hid (wr.drew.heap[w.heap.size]?=some (.cells #[.string x.name,iV x.season.op,iV x.season.n,iV x.season.u,.string x.season.rn,iV x.season.ri,.slice a0 x.season.args.length p0,iV x.cap.op,iV x.cap.n,iV x.cap.u,.string x.cap.rn,iV x.cap.ri,.slice a1 x.cap.args.length p1,iV x.start.op,iV x.start.n,iV x.start.u,.string x.start.rn,iV x.start.ri,.slice a2 x.start.args.length p2,.slice a7 a6 Z,.slice H G F,.slice y l m,.slice T nfarms S,.slice (some (aV g 0)) nrots Y,.slice I nrights J,.slice R nduties P] 35 (0,0))∧wr.drew.cell? (aV g (i*23+22))=some (.slice (A2 L i).a (A2 L i).n (A2 L i).c)):=yb ⟨g4,f4⟩
   have gd:=yb fz
   have ga:Hid (g < U.heap.size):=yb cf.lt
   have ft:Hid (g < wr.heap.size∧w.heap.size < wr.heap.size):=yb ⟨yt cf.lt ah.o.grown.size,by have:=HP.o.size;have:=ah.o.grown.size;omega⟩
   have dl:=yb cl
   have ff:=yb cj
   have gp:(i:Int) < (nrots:Int):=by omega
   clear fm cf ay fs d8 cx g4 fz cq et ey cl hz f4
   go_upto_region 6 with fail
   refine wp_region_noPanic ?_
   refine Di (by kernel_rfl) (fun W=>W.heap[w.heap.size]?=some (.cells #[.string x.name,iV x.season.op,iV x.season.n,iV x.season.u,.string x.season.rn,iV x.season.ri,.slice a0 x.season.args.length p0,iV x.cap.op,iV x.cap.n,iV x.cap.u,.string x.cap.rn,iV x.cap.ri,.slice a1 x.cap.args.length p1,iV x.start.op,iV x.start.n,iV x.start.u,.string x.start.rn,iV x.start.ri,.slice a2 x.start.args.length p2,.slice a7 a6 Z,.slice H G F,.slice y l m,.slice T nfarms S,.slice (some (aV g 0)) nrots Y,.slice I nrights J,.slice R nduties P] 35 (0,0))∧W.cell? (aV g (i*23+22))=some (.slice (A2 L i).a (A2 L i).n (A2 L i).c)) 12 ?_
   refine Af (i:=0) (v:=pV w.heap.size 23) rfl (by kernel_rfl) (by kernel_rfl) (by kernel_rfl) (fun _ _ _ h=>h) (by kernel_rfl) (Or.inl ⟨by rfl,?_⟩) (fun _=>bj.o) ?_
   ·intro w _;go_simp
   refine AO (i:=1) (v:=.slice (some (aV g 0)) nrots Y) rfl (by kernel_rfl) (by kernel_rfl) (by kernel_rfl) (fun _ _ _ h=>h) (by kernel_rfl) (Or.inl ⟨by rfl,?_⟩) bj.o ?_
   ·rintro W ⟨hW,fw⟩
    have hc:W.cell? (aV w.heap.size 23)=some (.slice (some (aV g 0)) nrots Y):=by simp only[World.cell?,hW];rfl
    clear hW
    go_simp
   refine Af (i:=2) (v:=iV (i:Int)) rfl (by kernel_rfl) (by kernel_rfl) (by kernel_rfl) (fun _ _ _ h=>h) (by kernel_rfl) (Or.inl ⟨by rfl,?_⟩) (fun _=>bj.o) ?_
   ·intro w _;go_simp
   refine Af (i:=3) (v:=pV w.heap.size 23) rfl (by kernel_rfl) (by kernel_rfl) (by kernel_rfl) (fun _ _ _ h=>h) (by kernel_rfl) (Or.inl ⟨by rfl,?_⟩) (fun _=>bj.o) ?_
   ·intro w _;go_simp
   refine AO (i:=4) (v:=.slice (some (aV g 0)) nrots Y) rfl (by kernel_rfl) (by kernel_rfl) (by kernel_rfl) (fun _ _ _ h=>h) (by kernel_rfl) (Or.inl ⟨by rfl,?_⟩) bj.o ?_
   ·rintro W ⟨hW,fw⟩
    have hc:W.cell? (aV w.heap.size 23)=some (.slice (some (aV g 0)) nrots Y):=by simp only[World.cell?,hW];rfl
    clear hW
    go_simp
   refine Af (i:=5) (v:=iV (i:Int)) rfl (by kernel_rfl) (by kernel_rfl) (by kernel_rfl) (fun _ _ _ h=>h) (by kernel_rfl) (Or.inl ⟨by rfl,?_⟩) (fun _=>bj.o) ?_
   ·intro w _;go_simp
   refine Af (i:=6) (v:=pV g (i*23)) rfl (by kernel_rfl) (by kernel_rfl) (by kernel_rfl) (fun _ _ _ h=>h) (by kernel_rfl) (Or.inl ⟨by rfl,?_⟩) (fun _=>bj.o) ?_
   ·intro w _;go_simp
   refine Af (i:=7) (v:=pV g (i*23+22)) rfl (by kernel_rfl) (by kernel_rfl) (by kernel_rfl) (fun _ _ _ h=>h) (by kernel_rfl) (Or.inl ⟨by rfl,?_⟩) (fun _=>bj.o) ?_
   ·intro w _;go_simp
   refine AO (i:=8) (v:=.slice (A2 L i).a (A2 L i).n (A2 L i).c) rfl (by kernel_rfl) (by kernel_rfl) (by kernel_rfl) (fun _ _ _ h=>h) (by kernel_rfl) (Or.inl ⟨by rfl,?_⟩) bj.o ?_
   ·rintro W ⟨hW,fw⟩
    have hc:W.cell? (aV w.heap.size 23)=some (.slice (some (aV g 0)) nrots Y):=by simp only[World.cell?,hW];rfl
    clear hW
    go_simp
   refine Ag (i:=9) (by kernel_rfl) rfl (fun K hK=>?_)
   go_simp
   refine de.o.mono ?_
   rintro e V ⟨⟨ta,tn,tc⟩,rfl,ee,dg,cg⟩
   rw[show Aw.v ⟨ta,tn,tc⟩=Value.slice ta tn tc from rfl]
   simp only at ee cg
   have gh:Hid (GM wr.heap.size V 158 8 (FA N w) ⟨ta,tn,tc⟩ (x.rots[i]'ff.o).turns):=yb (GM.of ee (yf _) cg)
   have fp:Hid (Below wr.heap.size wr V):=yb ((yg _ _).drew.trans dg)
   have dc:Hid (V.heap[w.heap.size]?=some (.cells #[.string x.name,iV x.season.op,iV x.season.n,iV x.season.u,.string x.season.rn,iV x.season.ri,.slice a0 x.season.args.length p0,iV x.cap.op,iV x.cap.n,iV x.cap.u,.string x.cap.rn,iV x.cap.ri,.slice a1 x.cap.args.length p1,iV x.start.op,iV x.start.n,iV x.start.u,.string x.start.rn,iV x.start.ri,.slice a2 x.start.args.length p2,.slice a7 a6 Z,.slice H G F,.slice y l m,.slice T nfarms S,.slice (some (aV g 0)) nrots Y,.slice I nrights J,.slice R nduties P] 35 (0,0))∧V.cell? (aV g (i*23+22))=some (.slice (A2 L i).a (A2 L i).n (A2 L i).c)):=yb ⟨(dg.block _ ft.o.2).trans bj.o.1,(dg.cell (p:=(aV g (i*23+22))) ft.o.1).trans bj.o.2⟩
   clear ee dg cg
   refine hK.o _ _ (fun _=>dc.o) ?_
   clear hK K
   refine Af (i:=10) (v:=pV g (i*23)) rfl (by kernel_rfl) (by kernel_rfl) (by kernel_rfl) (fun _ _ _ h=>h) (by kernel_rfl) (Or.inl ⟨by rfl,?_⟩) (fun _=>dc.o) ?_
   ·intro w _;go_simp
   refine Af (i:=11) (v:=pV g (i*23+22)) rfl (by kernel_rfl) (by kernel_rfl) (by kernel_rfl) (fun _ _ _ h=>h) (by kernel_rfl) (Or.inl ⟨by rfl,?_⟩) (fun _=>dc.o) ?_
   ·intro w _;go_simp
   refine Ag (i:=12) (by kernel_rfl) rfl (fun K hK=>?_)
   have hc:=dc.o.2
   have hf:=gd.o V fp.o
   go_simp
   have eh:Hid (WY U (some (aV g 0)) N w x.rots (hs++[⟨ta,tn,tc⟩]) (V.setCell (aV g (i*23+22)) (.slice ta tn tc))):=yb (by
    obtain rfl:=dl.o
    exact ah.o.next ff.o rfl ga.o fp.o hc gh.o rfl)
   clear hc hf
   generalize V.setCell (aV g (i*23+22)) (.slice ta tn tc)=V2 at*
   refine hK.o _ _ (by intro h;cases h) ?_
   clear hK K
   refine Dh (by kernel_rfl) ?_
   refine NoPanic.normal ?_
   go_wp2
   exact ⟨⟨hs++[⟨ta,tn,tc⟩],by simp;have:=dl.o;omega,by simp;have:=dl.o;omega,eh⟩,by simp[intOf];omega⟩
  ·have dr:i=nrots:=by omega
   have gp:decide ((i:Int) < (nrots:Int))=false:=by simp;omega
   have hz:=aa.o
   have fl:=HP.o.size
   have b9:∀b,b < W1.heap.size->some b≠MM x.rots a8:=fun b hb e=>by
    have h0:=MN e
    obtain ⟨g,cs,ha,fm,_⟩:=ab.o.2 0 (by rw[zF];exact h0)
    simp only at ha
    rw[ha,Fj h0] at e
    cases e;omega
   have cz:∀b t,Ty U b t->t≠109->some b≠MM x.rots a8:=fun b t ht cm e=>by
    have h0:=MN e
    obtain ⟨g,cs,ha,_,cf,_⟩:=ab.o.2 0 (by rw[zF];exact h0)
    simp only at ha
    rw[ha,Fj h0] at e
    cases e
    exact cm (ht.inj cf)
   have e9:∀b,N b->wr.heap[b]?=w.heap[b]?:=fun b hb=>(ah.o.grown.block b (bk.o _ HP.o b hb) (b9 b (by have:=HN.o b hb;omega))).trans (bq.o _ HP.o b hb)
   have e6:wr.heap[w.heap.size]?=some (.cells #[.string x.name,iV x.season.op,iV x.season.n,iV x.season.u,.string x.season.rn,iV x.season.ri,.slice a0 x.season.args.length p0,iV x.cap.op,iV x.cap.n,iV x.cap.u,.string x.cap.rn,iV x.cap.ri,.slice a1 x.cap.args.length p1,iV x.start.op,iV x.start.n,iV x.start.u,.string x.start.rn,iV x.start.ri,.slice a2 x.start.args.length p2,.slice a7 a6 Z,.slice H G F,.slice y l m,.slice T nfarms S,.slice a8 nrots Y,.slice I nrights J,.slice R nduties P] 35 (0,0)):=(ah.o.grown.block _ (by omega) (b9 _ (by omega))).trans HQ.o
   have fy:wr.heap[w.heap.size+1]?=some (.cells #[.string ⟨#[]⟩,iV 0,iV 0,iV 0,.string ⟨#[]⟩,iV 0,.slice none 0 0,iV 0,iV 0,iV 0,.string ⟨#[]⟩,iV 0,.slice none 0 0,iV 0,iV 0,iV 0,.string ⟨#[]⟩,iV 0,.slice none 0 0,.slice none 0 0,.slice none 0 0,.slice none 0 0,.slice none 0 0,.slice none 0 0,.slice none 0 0,.slice none 0 0] 35 (0,0)):=(ah.o.grown.block _ (by omega) (b9 _ (by omega))).trans ((HP.o.block _ (by omega) (fun e=>by simp at e)).trans gy.o)
   have an:∀b t,Ty U b t->t≠109->wr.heap[b]?=U.heap[b]?:=fun b t ht cm=>ah.o.grown.block b ht.lt (cz b t ht cm)
   have dd:∀i (h:i < hs.length),A2 (⟨w.heap.size,⟨a7,a6,Z⟩,⟨H,G,F⟩,⟨y,l,m⟩,⟨T,nfarms,S⟩,⟨a8,nrots,Y⟩,⟨I,nrights,J⟩,⟨R,nduties,P⟩,hs⟩:Bt) i=hs[i]:=fun i h=>by unfold A2;simp[h]
   have e7:Cb (fun g=>w.heap.size<=g∧g≠w.heap.size+1) (EV N wr) (RV wr) wr (⟨w.heap.size,⟨a7,a6,Z⟩,⟨H,G,F⟩,⟨y,l,m⟩,⟨T,nfarms,S⟩,⟨a8,nrots,Y⟩,⟨I,nrights,J⟩,⟨R,nduties,P⟩,hs⟩:Bt) x:=by
    refine Qm (B:=W1.heap.size) e9 (fun g hg=>by omega) b4.o e6 HV.o.name gn.o gr.o gc.o (E.o.upT fun b _ ht=>an b _ ht (by decide)) (C.o.upT fun b _ ht=>an b _ ht (by decide)) (A.o.upT fun b _ ht=>an b _ ht (by decide)) (X.o.upT fun b _ ht=>an b _ ht (by decide)) ?_ (ac.o.upT fun b _ ht=>an b _ ht (by decide)) (ae.o.upT fun b _ ht=>an b _ ht (by decide))
    refine TJ (L:=L) (L':=(⟨w.heap.size,⟨a7,a6,Z⟩,⟨H,G,F⟩,⟨y,l,m⟩,⟨T,nfarms,S⟩,⟨a8,nrots,Y⟩,⟨I,nrights,J⟩,⟨R,nduties,P⟩,hs⟩:Bt)) e9 ab.o (fun g hg=>by omega) b4.o.rots b4.o.turns (fun g hg ht=>ah.o.ty g hg _ ht) (fun g hg i q hq=>ah.o.cells g hg _ (fun j _=>by omega)) (fun k hk g hg=>?_) (fun k hk=>?_)
    ·have cn:k < hs.length:=by rw[<-cl,dr,df.o];exact hk
     rw[dd k cn]
     exact (ah.o.done k cn hk).2 g hg
    ·have cn:k < hs.length:=by rw[<-cl,dr,df.o];exact hk
     rw[dd k cn]
     exact GM.of (ah.o.done k cn hk).1.1 fl (ah.o.done k cn hk).1.2
   have dy:Below w.heap.size w wr:=⟨ah.o.grown.os.trans (HP.o.os.trans co.o.os),ah.o.grown.tape.trans (HP.o.tape.trans co.o.tape),ah.o.grown.output.trans (HP.o.output.trans co.o.output),by have:=ah.o.grown.size;omega,fun b hb=>(ah.o.grown.block b (by omega) (b9 b (by omega))).trans ((HP.o.block b (by omega) (fun e=>by cases e;omega)).trans (co.o.block b hb))⟩
   have es:∀b,N b->b < w.heap.size∧b < wr.heap.size:=fun b hb=>⟨HN.o b hb,by have:=HN.o b hb;have:=dy.size;omega⟩
   generalize f7:(⟨w.heap.size,⟨a7,a6,Z⟩,⟨H,G,F⟩,⟨y,l,m⟩,⟨T,nfarms,S⟩,⟨a8,nrots,Y⟩,⟨I,nrights,J⟩,⟨R,nduties,P⟩,hs⟩:Bt)=Lc at e7 dd
   have f6:Lc.s=w.heap.size:=by rw[<-f7]
   have e5:=yb e7;have cw:=yb dy;have db:=yb es;have h4:=yb e6;have ei:=yb fy;have bm:=yb f6
   have g8:=yb b4.o.exprs
   clear e7 dy es e6 fy f6 f7 dd an e9 b9 cz hz fl dr cl
   iterate 2
    go_wp2
    refine A9 (A4 ?_)
   have go:∀(fn:Fn) (first cap:Array Value) (w:World),(Instr.makeFunc fn first cap).run Tryz.prog w=.ok (.func fn first cap) w:=fun _ _ _ _=>rfl
   go_wp2
   refine A9 (A9 (A4 ?_))
   go_wp2_with (first|(go_at_call 72;refine (EX _ _).mono ?_;rintro e w2 ⟨rfl,rfl⟩))
   have ea:Below wr.heap.size wr ((wr.alloc (.cells #[.func (.func 90) #[] #[pV wr.heap.size 0]] 183)).alloc (.cells #[pV w.heap.size 0] 85)):=((yg _ _).alloc (yf _) _).alloc (by simp) _
   have ej:((wr.alloc (.cells #[.func (.func 90) #[] #[pV wr.heap.size 0]] 183)).alloc (.cells #[pV w.heap.size 0] 85)).cell? (aV wr.heap.size 0)=some (.func (.func 90) #[] #[pV wr.heap.size 0]):=by
    refine qn _ ?_
    have:=World.alloc_heap_new wr (.cells #[.func (.func 90) #[] #[pV wr.heap.size 0]] 183)
    simp only[World.cell?,this];simp
   have fd:((wr.alloc (.cells #[.func (.func 90) #[] #[pV wr.heap.size 0]] 183)).alloc (.cells #[pV w.heap.size 0] 85)).cell? (aV (wr.heap.size+1) 0)=some (pV w.heap.size 0):=by
    have:=World.alloc_heap_new (wr.alloc (.cells #[.func (.func 90) #[] #[pV wr.heap.size 0]] 183)) (.cells #[pV w.heap.size 0] 85)
    rw[z6] at this
    simp only[World.cell?,this];simp
   have ce:((wr.alloc (.cells #[.func (.func 90) #[] #[pV wr.heap.size 0]] 183)).alloc (.cells #[pV w.heap.size 0] 85)).heap.size=wr.heap.size+2:=by simp
   generalize (wr.alloc (.cells #[.func (.func 90) #[] #[pV wr.heap.size 0]] 183)).alloc (.cells #[pV w.heap.size 0] 85)=W4 at*
   have d4:=yb ea;have gq:=yb ej;have g9:=yb fd;have d6:=yb ce
   have dv:=e5.o.up (fun b hb=>(db.o b hb).2) ea
   have gk:=cw.o.size
   have cu:w.heap.size+2<=wr.heap.size:=by
    have h1:=(yd.1 ei.o).1
    omega
   have hA:=dv.all2 (by rw[bm.o];exact ⟨yf _,by omega⟩)
   have dq:=e5.o.all2 (by rw[bm.o];exact ⟨yf _,by omega⟩)
   have di:Oz N W4 Lc x:=⟨fun j b o lt hp=>(I1 hA hp).2.1,fun b hb=>⟨by have:=(db.o b hb).2;omega,fun j o lt hp=>by have h1:=(I1 hA hp).1.1;have h2:=(db.o b hb).1;omega⟩,fun j b o lt hp hj=>(I1 hA hp).2.2 hj⟩
   have dk:∀j b o lt,Gb Lc j b o lt->w.heap.size<=b∧b < wr.heap.size:=fun j b o lt hp=>⟨(I1 dq hp).1.1,(I1 dq hp).2.1.lt⟩
   have fk:=yb dv;have HA:=yb hA;have b5:=yb di;have ci:=yb dk;have du:=yb cu
   clear ea ej fd ce dv hA dq di dk gk cu go
   refine De ?_
   refine CK (n:=10) Tryz.func67 rfl (fun _ _=>rfl) (KQ 9 (by omega) (wr.heap.size+1) Lc e5.o.ok) (fun a ha=>by
     obtain ⟨i,hi,rfl⟩:=zc.1 ha
     obtain ⟨b,o,h1,_⟩:=HA.o.get i hi (by rw[<-HA.o.length];exact hi)
     rw[h1];rfl)
    (OA W4 Lc x) (fun _ _ _=>False) (fun _ _ _=>False)
    (fun k a O W=>OA W4 Lc x k O W∧∃(b o:Nat) (lt:Int),Gb Lc k b o lt∧a={tmps:=#[.agg #[.string x.name,iV x.season.op,iV x.season.n,iV x.season.u,.string x.season.rn,iV x.season.ri,.slice a0 x.season.args.length p0,iV x.cap.op,iV x.cap.n,iV x.cap.u,.string x.cap.rn,iV x.cap.ri,.slice a1 x.cap.args.length p1,iV x.start.op,iV x.start.n,iV x.start.u,.string x.start.rn,iV x.start.ri,.slice a2 x.start.args.length p2,.slice L.lets.a L.lets.n L.lets.c,.slice L.crops.a L.crops.n L.crops.c,.slice L.reaches.a L.reaches.n L.reaches.c,.slice L.farms.a L.farms.n L.farms.c,.slice L.rots.a L.rots.n L.rots.c,.slice L.rights.a L.rights.n L.rights.c,.slice L.duties.a L.duties.n L.duties.c],pV w.heap.size 0,pV (w.heap.size+1) 0,u3,pV wr.heap.size 0,pV b o,pV w.heap.size 19,.slice L.lets.a L.lets.n L.lets.c,.slice a7 a6 Z,pV w.heap.size 20,.slice L.crops.a L.crops.n L.crops.c,.slice H G F,pV w.heap.size 21,.slice L.reaches.a L.reaches.n L.reaches.c,.slice y l m,pV w.heap.size 22,.slice L.farms.a L.farms.n L.farms.c,.slice T nfarms S,pV w.heap.size 19,pV w.heap.size 20,pV w.heap.size 21,pV w.heap.size 22,pV w.heap.size 23,.slice L.rots.a L.rots.n L.rots.c,.slice a8 nrots Y,pV w.heap.size 24,.slice L.rights.a L.rights.n L.rights.c,.slice I nrights J,pV w.heap.size 25,.slice L.duties.a L.duties.n L.duties.c,.slice R nduties P,pV w.heap.size 23,pV w.heap.size 24,pV w.heap.size 25,pV w.heap.size 23,.slice a8 nrots Y,iV (nrots:Int),iV (i:Int),.bool false,u39,u40,u41,u42,u43,u44,u45,u46,u47,u48,u49,u50,u51,u52,.func (.func 90) #[] #[pV wr.heap.size 0],.func (.func 92) #[] #[pV (wr.heap.size+1) 0],pV b o,iV lt,undef,undef,undef,undef],defers:=[]})
    OA.stays (fun _ _ _ _ _ _ h=>h.elim) (fun _ _ _ _ _ _ h=>h.elim) ?_ ?_ (fun _ _ _ h=>h.elim) (fun _ h=>by cases h) (OA.start W4 Lc x) ?_ ?_ ?_ (fun _ _ _ _ _ _ h=>h.elim) (fun _ _ _ _ _ _ h=>h.elim)
   ·exact fun a k O W O' W' h hz ho ht hu hk hO=>⟨OA.stays k O W O' W' h.1 hz ho ht hu hk hO,h.2⟩
   ·intro k O W hJ
    refine fk.o.heads (fun b q hq=>by obtain ⟨t,ty,ay⟩:=hq;exact I2 b5.o hJ ty (by rw[ay];decide)) ?_
    rw[bm.o,Ac (hJ.old _ (by have:=d6.o;omega) (fun j o lt _ hp=>by have:=(ci.o j _ o lt hp).2;omega))]
    exact g9.o
   ·intro k hk O W lo hJ hO hl _
    obtain ⟨b,o,lt,hp⟩:=TL HA.o hk
    have he:(BK Lc)[k]=#[pV b o,iV lt]:=by
     unfold Gb at hp
     rw[yk hk] at hp
     exact yi hp
    rw[he]
    have e4:=yb hJ;have dt:=yb hp
    clear hJ hO hl hp he
    gi_wp2
    first
    |exact ⟨AN.refl _ _,e4.o,b,o,lt,dt.o,rfl⟩
    |(rename_i hK;exact hK _ _ ⟨AN.refl _ _,e4.o,b,o,lt,dt.o,rfl⟩)
    |(rename_i hK _;exact hK _ _ ⟨AN.refl _ _,e4.o,b,o,lt,dt.o,rfl⟩)
   ·rintro k hk O W lo a1 hl f0 ex ⟨hJ,b,o,lt,hp,rfl⟩
    have dx:k < (As x).length:=by rw[<-HA.o.length];exact hk
    obtain ⟨M,hM,cs,hr,hv⟩:=hJ.read b5.o hp dx
    obtain ⟨t,ht,_⟩:=b5.o.epos k b o lt hp
    have hf:=ci.o k b o lt hp
    have ce:=d6.o
    have bx:W.cell? (aV wr.heap.size 0)=some (.func (.func 90) #[] #[pV wr.heap.size 0]):=(Ac (hJ.old _ (by omega) (fun j o lt _ hp=>by have:=(ci.o j _ o lt hp).2;omega))).trans gq.o
    have fu:=TI M wr.heap.size (As x)[k].1 b o t cs W hv hr (hJ.ty b t ht) (g8.o _ (yJ dx)) (fun c hc=>by
     rcases hM c hc with h1|h1
     ·have h2:=(db.o c h1);have h3:=hJ.size;omega
     ·omega) (by omega) bx
    have gg:=yb fu
    have eh:=yb (fun w3=>OA.next (w':=w3) b5.o hJ hp dx ex)
    clear hM hr hv ht hf ce fu hJ hp ex hl f0
    gi_wp2_with fail
    refine ⟨trivial,zm (CallsIn.inRound lo (yY.2 gg.o)) ?_⟩
    rintro e w3 ⟨rfl,ay⟩
    have ek:=yb (eh.o w3 ay)
    clear ay
    gi_wp2_with fail
    first
    |exact ⟨ek.o.2,ek.o.1⟩
    |fail
   ·rintro - D O W hD el hJ f3
    simp only[Exit.inBlock,Exit.then]
    have ce:=d6.o
    have cu:=du.o
    have gm:=hJ.size
    have fo:Cb (fun g=>w.heap.size<=g∧g≠w.heap.size+1) (fun _ _ _ _=>True) (RV W) W Lc x:=fk.o.imp (fun b t _ ht=>hJ.ty b t ht) (fun b q _ hq=>by obtain ⟨t,ty,ay⟩:=hq;exact I2 b5.o hJ ty (by rw[ay];decide)) (fun _ _ _ _ _ _ _=>trivial) (fun to r b q _ hq hr=>by
     obtain ⟨t,ty,h1,h2⟩:=hq
     exact ⟨hr.1,(I2 b5.o hJ ty (by rw[h1];decide)).trans hr.2.1,(I2 b5.o hJ ty (by rw[h2];decide)).trans hr.2.2⟩)
    have e3:=fo.told (Vf (B:=fun b=>w.heap.size+2<=b∧b≠D) HA.o b5.o hJ (fun b hb hO=>⟨by omega,fun e=>hO (e▸el)⟩))
    have f2:Cb (fun g=>w.heap.size<=g∧g≠w.heap.size+1) (EV (fun g=>w.heap.size<=g∧g≠w.heap.size+1) W) (RV W) W Lc x:=e3.imp (fun _ _ _ h=>h) (fun _ _ _ _=>rfl) (fun lt e b o _ _ hE=>by obtain ⟨c,h1,h2⟩:=hE;exact ⟨c,h1,h2.exV (fun b hb _=>by have h3:=hb.1;exact ⟨by omega,by omega⟩)⟩) (fun _ _ _ _ _ _ h=>h)
    obtain ⟨cs,ay,eg,f1⟩:=f2.srcV
    rw[bm.o] at eg
    have dj:=Nq f1
    have ct:∀j o lt,¬ Gb Lc j (w.heap.size+1) o lt:=fun j o lt hp=>(I1 HA.o hp).1.2 rfl
    have fe:W.heap[w.heap.size+1]?=some (.cells #[.string ⟨#[]⟩,iV 0,iV 0,iV 0,.string ⟨#[]⟩,iV 0,.slice none 0 0,iV 0,iV 0,iV 0,.string ⟨#[]⟩,iV 0,.slice none 0 0,iV 0,iV 0,iV 0,.string ⟨#[]⟩,iV 0,.slice none 0 0,.slice none 0 0,.slice none 0 0,.slice none 0 0,.slice none 0 0,.slice none 0 0,.slice none 0 0,.slice none 0 0] 35 (0,0)):=(hJ.old _ (by omega) (fun j o lt _=>ct j o lt)).trans ((d4.o.block _ (by omega)).trans ei.o)
    have ef:Hid ((Tryz.prog.info? 35).map (·.size)=some cs.length):=yb (by rw[ay];kernel_rfl)
    have fv:Hid ((Tryz.prog.info? 35).map (·.size)=some cs.toArray.size):=yb (by rw[yM];exact ef.o)
    have de:=yb ay;have fq:=yb eg;have dh:=yb dj;have eq:=yb fe;have gs:=yb e3;have en:=yb f3;have HD:=yb hD;have cr:=yb hJ
    clear fo e3 f2 ay eg f1 dj ct fe f3 hD hJ el ce cu gm
    refine A9 (A4 ?_)
    go_wp2_with (first|(refine yj rfl 35 _ rfl w.heap.size 0 rfl cs _ fq.o qY rfl ef.o ?_)|(refine ze rfl 35 _ _ rfl (w.heap.size+1) cs.toArray rfl rfl 35 _ eq.o fv.o (by simp[de.o]) (zb dh.o) ?_))
    refine A4 ?_
    go_wp2
    have cm:D≠w.heap.size+1:=by have:=HD.o;have:=d6.o;have:=du.o;omega
    have gw:(W.setRow (w.heap.size+1) cs.toArray).heap[D]?=some (.deferred (some [])):=by
     simp only[World.setRow,yL,yq (xd cm)]
     exact en.o
    have cd:∀ob b,b≠w.heap.size+1->b≠D->((W.setRow (w.heap.size+1) cs.toArray).putObj D ob).heap[b]?=W.heap[b]?:=fun ob b h1 h2=>by
     rw[World.putObj_heap_other h2]
     simp only[World.setRow,yL,yq (xd h1)]
    have gi:∀ob,((W.setRow (w.heap.size+1) cs.toArray).putObj D ob).heap[w.heap.size+1]?=some (.cells cs.toArray 35 (0,0)):=fun ob=>by
     rw[World.putObj_heap_other (xd cm)]
     simp[World.setRow,yL,eq.o]
    have gx:∀ob,((W.setRow (w.heap.size+1) cs.toArray).putObj D ob).rangeAt (w.heap.size+1) 0 cs:=fun ob=>by
     have:=zp (gi ob) 0 cs.length
     simpa using this
    have dm:∀ob,MK w x (.returned (.agg cs.toArray)) ((W.setRow (w.heap.size+1) cs.toArray).putObj D ob):=fun ob=>by
     have gz:=HD.o
     have ce:=d6.o
     have cu:=du.o
     have da:∀b t,b≠w.heap.size+1->Ty W b t->b≠D:=fun b t _ ht e=>by
      obtain ⟨c,hc⟩:=ht
      rw[e,en.o] at hc
      cases hc
     refine ⟨Lc,cs,rfl,de.o,dh.o,⟨cr.o.os.trans (d4.o.os.trans cw.o.os),cr.o.tape.trans (d4.o.tape.trans cw.o.tape),cr.o.output.trans (d4.o.output.trans cw.o.output),?_,fun b hb=>?_⟩,bm.o,?_,?_⟩
     ·have h1:=cr.o.size
      have h2:((W.setRow (w.heap.size+1) cs.toArray).putObj D ob).heap.size=W.heap.size:=by simp[World.setRow]
      omega
     ·rw[cd ob b (by omega) (by omega),cr.o.old b (by omega) (fun j o lt _ hp=>by have:=(ci.o j b o lt hp).1;omega),d4.o.block b (by omega)]
      exact cw.o.block b hb
     ·rw[bm.o]
      exact A0 fq.o (cd ob _ (by omega) (by omega))
     ·refine gs.o.imp (fun b t hq ht=>?_) (fun b q hq hp=>?_) (fun lt e b o hq hp hE=>?_) (fun to r b o hq hp hr=>?_)
      ·have h1:b≠w.heap.size+1:=by rcases hq with hq|hq;exact hq.2;have:=bm.o;omega
       exact ht.same (cd ob b h1 (da b t h1 ht))
      ·have h1:b≠w.heap.size+1:=by rcases hq with hq|hq;exact hq.2;have:=bm.o;omega
       obtain ⟨t,ty,_⟩:=hp
       exact Ac (cd ob b h1 (da b t h1 ty))
      ·have h1:b≠w.heap.size+1:=by rcases hq with hq|hq;exact hq.2;have:=bm.o;omega
       obtain ⟨t,ty,_⟩:=hp
       obtain ⟨c,c1,c2⟩:=hE
       exact ⟨c,A0 c1 (cd ob b h1 (da b t h1 ty)),c2.same (fun b hb _=>hb.1) (fun b hb _=>cd ob b (by have:=hb.1;omega) hb.2)⟩
      ·have h1:b≠w.heap.size+1:=by rcases hq with hq|hq;exact hq.2;have:=bm.o;omega
       obtain ⟨t,ty,_⟩:=hp
       have h2:=cd ob b h1 (da b t h1 ty)
       exact ⟨hr.1,(Ac h2).trans hr.2.1,(Ac h2).trans hr.2.2⟩
    exact ⟨by simp,.inl ⟨_,_,rfl,run_takeDeferred gw,⟨_,Ns rfl rfl (run_loadVar_mid _ (w.heap.size+1) 0 35 cs _ (gx _) qY rfl ef.o),dm _⟩⟩⟩
end Go.Proofs.YtjofgpfocadomaaGreatDoor
