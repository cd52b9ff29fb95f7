/- Parts of the proof, in short words: Of Og Ya Nh Pa Pb Pc Pd Va Yb Oh Ni Qa Pg Ph Pi Pj Pk Pf -/
import Derived.Test.YtghepahgkcigpaaRn0
import Derived.Test.YtghepahgkcigpaaRn1
import Derived.Deep.Cut
import Derived.Deep.RegionHeld2
import Derived.StillTailTactics
import Derived.Test.YtghepahgkcigpaaRn2
import Derived.Lib.SliceRun
import Derived.Deep.RegionHeld3
import Derived.BigFrameIn
set_option maxRecDepth 100000
set_option maxHeartbeats 32000000
set_option linter.unusedSimpArgs false
namespace Go.Proofs.Ytghepahgkcigpaa
open Go.RowKit
structure VM (n l By Bi B0:Nat) (O:Nat->Prop) (X:List Us) (w0:World) (C:Addr->Prop) (J:Nat->(Nat->Prop)->World->Prop) (Jx:(Nat->Prop)->World->Prop) (Jp:List PanicEntry->(Nat->Prop)->World->Prop):Prop where
 stays:E6 J
 hd:∀k O W,J k O W->∀p,C p->W.cell? p=w0.cell? p
 hdx:∀O W,Jx O W->∀p,C p->W.cell? p=w0.cell? p
 round:∀k (hk:k < X.length) W,JZ J O B0 l By Bi k W->YieldAt Fence.wide (n - 1) Try.prog l X[k].v W (KS J Jx Jp O (k+1) W)
theorem Q8(n:Nat)(hn:1<=n)(l By Bi B0:Nat)(lt:Int)(hlt:0<=lt∧lt<=1000000)(O:NP)(X:List Us)(w0:World)(C:Addr->Prop)(J:Nat->NP->World->Prop)(Jx:NP->World->Prop)(Jp:List PanicEntry->NP->World->Prop)
 (hc:VM n l By Bi B0 O X w0 C J Jx Jp):∀(e:Ex) (b o:Nat) (pre:List Us) (W:World),JZ J O B0 l By Bi pre.length W->S5 w0 C e b o->(∃post,X=pre++((Cx w0 lt e b o).1++post))->
   ((Cx w0 lt e b o).2=false->∀W',J (pre.length+(Cx w0 lt e b o).1.length) O W'->Jp (F9 170) O W')->
   Calls Try.prog 82 #[.pointer (some ⟨b,o,none⟩),.int .i64 lt,.pointer (some ⟨By,0,none⟩),.pointer (some ⟨Bi,0,none⟩)] W (Oz J Jx Jp O (pre.length+(Cx w0 lt e b o).1.length) (Cx w0 lt e b o).2 W):=by
 refine Ib fun op nn u rn ri args ih=>?_
 intro b o pre W hi hR hX hbad
 rw[S5] at hR
 obtain ⟨a,cap,⟨c0,C0⟩,⟨c5,C5⟩,hl,hrow⟩:=hR
 have HC:=yb hc
 have HI:=yb hi
 have HX:=yb hX
 have HBad:=yb hbad
 have IH:=yb ih
 have HRow:=yb hrow
 have HC5:=yb C5
 have w0c:=(hc.hd _ _ _ hi.j _ C0).trans c0
 have w5c:=(hc.hd _ _ _ hi.j _ C5).trans c5
 have y0:=hi.y.2
 have H5:=yb c5
 have a0:(W.alloc (.cells #[.pointer (some ⟨b,o+3,none⟩),.int .i64 0,.int .i64 0] 106)).cell? ⟨b,o,none⟩=some (.int .i64 op):=((yg W.heap.size W).alloc (yf _) _).cell (p:=⟨b,o,none⟩) (zN W _ w0c) |>.trans w0c
 have HE:Hid (Cx w0 lt (.mk op nn u rn ri args) b o=if ND op args.length then (⟨b,o+3,Kt op lt,Om op lt,rn,ri⟩::(BN w0 lt args (some (.slice a args.length cap)) 0).1,(BN w0 lt args (some (.slice a args.length cap)) 0).2) else ([],false)):=yb (by rw[Cx,c5])
 generalize hP:Cx w0 lt (.mk op nn u rn ri args) b o=P at*
 clear hP
 generalize hm:args.length=m at*
 have Hm:=yb hm
 clear hm hc hi hX hbad ih hrow C0 C5 c0 c5
 by_cases h1:1<=op
 rotate_left
 ·have HF:Hid (P=([],false)):=yb (by rw[HE.o];simp[ND,h1])
  go_enter Try.func82,Try.ntmps82
  go_wp2_with (first|(go_at_call 50;refine (CN _ _).mono ?_;rintro e w5 ⟨rfl,rfl⟩))
  exact ⟨rfl,.inr ⟨_,rfl,HBad.o (by rw[HF.o]) _ (by rw[HF.o];exact HI.o.j),BL.refl _ _⟩⟩
 by_cases h6:op<=6
 rotate_left
 ·have HF:Hid (P=([],false)):=yb (by rw[HE.o];simp[ND,h6])
  go_enter Try.func82,Try.ntmps82
  go_wp2_with (first|(go_at_call 50;refine (CN _ _).mono ?_;rintro e w5 ⟨rfl,rfl⟩))
  exact ⟨rfl,.inr ⟨_,rfl,HBad.o (by rw[HF.o]) _ (by rw[HF.o];exact HI.o.j),BL.refl _ _⟩⟩
 go_enter Try.func82,Try.ntmps82
 go_upto_if 30 with (first|(go_at_call 50;refine (D4 _ _).mono ?_;rintro e w5 ⟨rfl,rfl⟩))
 go_cut [31] from 22 (fun _ w'=>Hid (Below w5.heap.size w5 w'∧w'.heap[w5.heap.size]?=some (.cells #[.pointer (some ⟨b,o+3,none⟩),.int .i64 (Kt op lt),.int .i64 (Om op lt)] 106 (0,0))))
 case first=>
  go_wp2
  all_goals
   go_meet
   case rel=>exact yb ⟨(yg _ _).alloc (yf _) _,by rw[World.alloc_heap_new];simp_all[Kt,Om]<;>omega⟩
 clear a0
 have HBc:=yb hcut.o.1
 have HUc:=yb hcut.o.2
 have b0:=(HBc.o.cell (p:=⟨b,o,none⟩) (zN w5 _ w0c)).trans w0c
 have b5:=(HBc.o.cell (p:=⟨b,o+5,none⟩) (zN w5 _ w5c)).trans w5c
 have HIc:=yb (HI.o.below HC.o.stays HBc.o)
 clear hcut w0c w5c
 go_upto_if 42 with fail
 go_cut [31] from 22 (fun _ w'=>Hid (w'=wc∧ND op m=true))
 case first=>
  by_cases h3:3<=op
  ·by_cases h2:m=2
   ·have hb2:((m:Int)==2)=true:=by simp;omega
    have HOk:Hid (ND op m=true):=yb (by simp[ND,h1,h6,h3,h2])
    clear h2
    go_wp2_with (first|(go_at_call 50;refine (D4 _ _).mono ?_;rintro e w6 ⟨rfl,rfl⟩))
    go_meet
    case rel=>exact yb ⟨rfl,HOk.o⟩
   ·have hb2:((m:Int)==2)=false:=by simp;omega
    have HF:Hid (P=([],false)):=yb (by rw[HE.o];simp[ND,h3,h2])
    clear h2
    go_wp2_with (first|(go_at_call 50;refine (CN _ _).mono ?_;rintro e w6 ⟨rfl,rfl⟩))
    exact ⟨rfl,.inr ⟨_,rfl,HBad.o (by rw[HF.o]) _ (by rw[HF.o];exact HIc.o.j),HI.o.sameBelow HBc.o⟩⟩
  ·by_cases h2:m=0
   ·have hb2:((m:Int)==0)=true:=by simp;omega
    have HOk:Hid (ND op m=true):=yb (by simp[ND,h1,h6,h3,h2])
    clear h2
    go_wp2_with (first|(go_at_call 50;refine (D4 _ _).mono ?_;rintro e w6 ⟨rfl,rfl⟩))
    go_meet
    case rel=>exact yb ⟨rfl,HOk.o⟩
   ·have hb2:((m:Int)==0)=false:=by simp;omega
    have HF:Hid (P=([],false)):=yb (by rw[HE.o];simp[ND,h3,h2])
    clear h2
    go_wp2_with (first|(go_at_call 50;refine (CN _ _).mono ?_;rintro e w6 ⟨rfl,rfl⟩))
    exact ⟨rfl,.inr ⟨_,rfl,HBad.o (by rw[HF.o]) _ (by rw[HF.o];exact HIc.o.j),HI.o.sameBelow HBc.o⟩⟩
 obtain ⟨rfl,hok⟩:=hcut.o
 have HP:Hid (P=(⟨b,o+3,Kt op lt,Om op lt,rn,ri⟩::(BN w0 lt args (some (.slice a m cap)) 0).1,(BN w0 lt args (some (.slice a m cap)) 0).2)):=yb (by rw[HE.o,hok];rfl)
 have hk:pre.length < X.length:=by
  obtain ⟨post,hx⟩:=HX.o
  rw[hx,HP.o];simp
 have hxk:X[pre.length].v=#[.agg #[.pointer (some ⟨b,o+3,none⟩),.int .i64 (Kt op lt),.int .i64 (Om op lt)]]:=by
  obtain ⟨post,hx⟩:=HX.o
  have:X[pre.length]?=some ⟨b,o+3,Kt op lt,Om op lt,rn,ri⟩:=by rw[hx,HP.o];simp
  rw[yk hk] at this
  rw[yh this];rfl
 obtain ⟨yfn,ytmps,yassign,ybody,hy,hyR⟩:=HC.o.round pre.length hk _ HIc.o
 rw[hxk] at hy
 have HyR:=yb hyR
 have q0:wc.cell? ⟨w5.heap.size,0,none⟩=some (.pointer (some ⟨b,o+3,none⟩)):=by simp[World.cell?,HUc.o]
 have q1:wc.cell? ⟨w5.heap.size,1,none⟩=some (.int .i64 (Kt op lt)):=by simp[World.cell?,HUc.o]
 have q2:wc.cell? ⟨w5.heap.size,2,none⟩=some (.int .i64 (Om op lt)):=by simp[World.cell?,HUc.o]
 have q3:=HIc.o.y.2
 clear hk hxk hyR hcut hok
 go_upto_region 10 with fail
 refine (wpIn_wide (n:=n)).1 ?_
 gi_wp2
 refine HyR.o.mono ?_
 rintro e W3 (⟨rfl,hj,hs⟩|⟨rfl,hx,hs⟩|⟨ch,rfl,hp,hs⟩)
 rotate_left
 ·have HX3:=yb hx
  have HS3:=yb ((HI.o.sameBelow HBc.o).trans hs)
  clear hx hs q0 q1 q2 q3 hy b0 b5
  gi_wp2
  go_wp2
  go_ret
  exact .inl ⟨false,rfl,HS3.o,.inr ⟨rfl,HX3.o⟩⟩
 ·exact ⟨rfl,.inr ⟨ch,rfl,hp,(HI.o.sameBelow HBc.o).trans hs⟩⟩
 have HI3:=yb (HIc.o.same hj hs)
 have HS3:=yb ((HI.o.sameBelow HBc.o).trans hs)
 have d5:=(HC.o.hd _ _ _ hj _ HC5.o).trans H5.o
 clear hj hs q0 q1 q2 q3 hy b0 b5
 gi_wp2
 go_wp2
 clear d5
 go_loopw [66] (fun iv wr=>∃i:Nat,iv=.int .i64 i∧i<=m∧Hid (JZ J O B0 l By Bi (pre.length+1+(BN w0 lt (args.take i) (some (.slice a m cap)) 0).1.length) wr)∧Hid (BL O w5 wr)∧Hid ((BN w0 lt (args.take i) (some (.slice a m cap)) 0).2=true)) (fun iv _=>m - (intOf iv).toNat)
 case atStart=>exact ⟨0,rfl,yC _,HI3,HS3,yb rfl⟩
 case round=>
  obtain ⟨i,rfl,hi,HIr,HSr,HOr⟩:=hrel
  by_cases hlt:i < m
  ·have hil:i < args.length:=by rw[Hm.o];exact hlt
   obtain ⟨b',o',rfl,hex⟩:=Oy HRow.o i hil
   rw[yB] at hex
   have hn1:=S6 hil HOr.o
   have HNx:=yb hn1
   have HXs:Hid (∃post,X=(pre++(⟨b,o+3,Kt op lt,Om op lt,rn,ri⟩::(BN w0 lt (args.take i) (some (.slice (some ⟨b',o',none⟩) m cap)) 0).1))++((Cx w0 lt args[i] b' (o'+i*6)).1++post)):=yb (by
    obtain ⟨post,hx⟩:=HX.o
    obtain ⟨post2,hp2⟩:=Ox (w:=w0) (lt:=lt) (b:=b') (o:=o') (n:=m) (c:=cap) (args.take (i+1)) (args.drop (i+1)) 0
    rw[xB,hn1] at hp2
    refine ⟨post2++post,?_⟩
    rw[hx,HP.o]
    simp only[hp2]
    simp)
   have HBs:Hid ((Cx w0 lt args[i] b' (o'+i*6)).2=false->∀W',J ((pre++(⟨b,o+3,Kt op lt,Om op lt,rn,ri⟩::(BN w0 lt (args.take i) (some (.slice (some ⟨b',o',none⟩) m cap)) 0).1)).length+(Cx w0 lt args[i] b' (o'+i*6)).1.length) O W'->Jp (F9 170) O W'):=yb (fun hf W' hj=>by
    have hst:=MG (w:=w0) (lt:=lt) (b:=b') (o:=o') (n:=m) (c:=cap) (args.take (i+1)) (args.drop (i+1)) 0 (by rw[hn1];exact hf)
    rw[xB,hn1] at hst
    refine HBad.o (by rw[HP.o];simp only[hst];exact hf) W' ?_
    rw[HP.o]
    simp only[hst]
    have e1:pre.length+(⟨b,o+3,Kt op lt,Om op lt,rn,ri⟩::((BN w0 lt (args.take i) (some (.slice (some ⟨b',o',none⟩) m cap)) 0).1++(Cx w0 lt args[i] b' (o'+i*6)).1)).length=(pre++(⟨b,o+3,Kt op lt,Om op lt,rn,ri⟩::(BN w0 lt (args.take i) (some (.slice (some ⟨b',o',none⟩) m cap)) 0).1)).length+(Cx w0 lt args[i] b' (o'+i*6)).1.length:=by simp;omega
    rw[e1];exact hj)
   have HCl:=yb (fun (W:World) (hW:JZ J O B0 l By Bi (pre.length+1+(BN w0 lt (args.take i) (some (.slice (some ⟨b',o',none⟩) m cap)) 0).1.length) W)=>IH.o args[i] (yz hil) b' (o'+i*6) (pre++(⟨b,o+3,Kt op lt,Om op lt,rn,ri⟩::(BN w0 lt (args.take i) (some (.slice (some ⟨b',o',none⟩) m cap)) 0).1)) W (by
    have e1:(pre++(⟨b,o+3,Kt op lt,Om op lt,rn,ri⟩::(BN w0 lt (args.take i) (some (.slice (some ⟨b',o',none⟩) m cap)) 0).1)).length=pre.length+1+(BN w0 lt (args.take i) (some (.slice (some ⟨b',o',none⟩) m cap)) 0).1.length:=by simp;omega
    rw[e1];exact hW) hex HXs.o HBs.o)
   have HNl:Hid ((pre++(⟨b,o+3,Kt op lt,Om op lt,rn,ri⟩::(BN w0 lt (args.take i) (some (.slice (some ⟨b',o',none⟩) m cap)) 0).1)).length+(Cx w0 lt args[i] b' (o'+i*6)).1.length=pre.length+1+(BN w0 lt (args.take (i+1)) (some (.slice (some ⟨b',o',none⟩) m cap)) 0).1.length):=yb (by rw[hn1];simp;omega)
   have HNo:Hid ((BN w0 lt (args.take (i+1)) (some (.slice (some ⟨b',o',none⟩) m cap)) 0).2=(Cx w0 lt args[i] b' (o'+i*6)).2):=yb (by rw[hn1])
   have HIr1:=yb (HIr.o.below HC.o.stays ((yg wr.heap.size wr).drew))
   have hki:(i:Int) < (m:Int):=by omega
   have e5:=(HC.o.hd _ _ _ HIr.o.j _ HC5.o).trans H5.o
   have eB:=HIr.o.i.2
   have HS1:Hid (wr.drew.cell? ⟨Bi,0,none⟩=some (.func (.func 82) #[] #[.pointer (some ⟨By,0,none⟩),.pointer (some ⟨Bi,0,none⟩)])∧wr.drew.cell? ⟨b,o+5,none⟩=some (.slice (some ⟨b',o',none⟩) m cap)):=yb ⟨HIr1.o.i.2,(HC.o.hd _ _ _ HIr1.o.j _ HC5.o).trans H5.o⟩
   have HSd:=yb (HSr.o.trans (HIr.o.sameBelow ((yg wr.heap.size wr).drew)))
   clear hn1 hex
   go_wp2_with fail
   go_region_held2 (fun w'=>w'.cell? ⟨Bi,0,none⟩=some (.func (.func 82) #[] #[.pointer (some ⟨By,0,none⟩),.pointer (some ⟨Bi,0,none⟩)])∧w'.cell? ⟨b,o+5,none⟩=some (.slice (some ⟨b',o',none⟩) m cap)) (first|exact HS1.o|exact HS2.o)
    (first|(go_at_call 82;refine (HCl.o _ HIr1.o).mono ?_;rintro e w2 (⟨r,rfl,hs2,hr⟩|⟨ch,rfl,hp,hs2⟩);rotate_left;exact ⟨rfl,.inr ⟨ch,rfl,hp,HSd.o.trans hs2⟩⟩;have HS2:=yb (And.intro (DA hs2 HIr1.o.i.1 HIr1.o.i.2) (hr.elim (fun h=>(HC.o.hd _ _ _ h.2.2 _ HC5.o).trans H5.o) (fun h=>(HC.o.hdx _ _ h.2 _ HC5.o).trans H5.o)));have HR:=yb hr;have HSw:=yb hs2;clear hr hs2))
   rcases HR.o with ⟨rfl,hok2,hj2⟩|⟨rfl,hx2⟩
   ·have HJ2:=yb hj2
    have HO2:=yb hok2
    clear hok2 hj2 HR e5 eB
    go_wp2
    exact ⟨⟨i+1,by push_cast;rfl,by omega,yb (by rw[<-HNl.o];exact HIr1.o.same HJ2.o HSw.o),yb (HSd.o.trans HSw.o),yb (by rw[HNo.o];exact HO2.o)⟩,by simp[intOf];omega⟩
   ·have HX2:=yb hx2
    clear hx2 HR e5 eB
    go_wp2
    go_ret
    exact .inl ⟨false,rfl,HSd.o.trans HSw.o,.inr ⟨rfl,HX2.o⟩⟩
  ·obtain rfl:i=m:=by omega
   have HFin:Hid (P.2=true∧J (pre.length+P.1.length) O wr):=yb (by
    have h1:=HOr.o
    have h2:=HIr.o.j
    rw[<-Hm.o,yx] at h1 h2
    rw[HP.o]
    simp only[yI]
    rw[Hm.o] at h1 h2
    exact ⟨h1,by rw[show pre.length+((BN w0 lt args (some (.slice a i cap)) 0).1.length+1)=pre.length+1+(BN w0 lt args (some (.slice a i cap)) 0).1.length by omega];exact h2⟩)
   have hki:decide ((i:Int) < (i:Int))=false:=by simp
   go_wp2
   go_ret
   exact .inl ⟨true,rfl,HSr.o,.inl ⟨rfl,HFin.o.1,HFin.o.2⟩⟩
def Gi(op n u:Int)(rn:ByteArray)(ri:Int)(m:Nat):Bool:=decide (op=0)&&(decide (n=0)&&(decide (u=0)&&(decide (rn.size=0∧ri=0)&&decide (m=0))))
theorem FW(s:ByteArray):s.size=0↔s.toList=[]:=by
 rw[zL,<-ze,GA]
theorem Ku(op b u:Int)(rn:ByteArray)(ri:Int)(a:Option Addr)(m cap:Nat)(w:World):
  Calls Try.prog 83 #[.agg #[.int .i64 op,.int .i64 b,.int .i64 u,.string rn,.int .i64 ri,.slice a m cap]] w fun e w'=>e=.returned (.bool (Gi op b u rn ri m))∧Below w.heap.size w w':=by
 by_cases h0:op=0
 ·by_cases h1:b=0
  ·by_cases h2:u=0
   ·subst h0 h1 h2
    go_enter Try.func83,Try.ntmps83
    go_wp2
    ·rename_i h1 h2
     go_ret
     refine ⟨BG ?_,(yg _ _).alloc (yf _) _⟩
     simp only[Gi,decide_eq_true (show rn.size=0∧ri=0 from ⟨(FW rn).2 h1,h2⟩)]
     rw[xQ];simp
    ·rename_i h1 h2
     go_ret
     refine ⟨BG ?_,(yg _ _).alloc (yf _) _⟩
     simp only[Gi,xR (show ¬ (rn.size=0∧ri=0) from fun h=>h2 h.2)]
     simp
    ·rename_i h1
     go_ret
     refine ⟨BG ?_,(yg _ _).alloc (yf _) _⟩
     simp only[Gi,xR (show ¬ (rn.size=0∧ri=0) from fun h=>h1 ((FW rn).1 h.1))]
     simp
   ·have c:(u==0)=false:=by simpa using h2
    subst h0 h1
    go_enter Try.func83,Try.ntmps83
    go_wp2
    go_ret
    exact ⟨BG (by simp[Gi,h2]),(yg _ _).alloc (yf _) _⟩
  ·have c:(b==0)=false:=by simpa using h1
   subst h0
   go_enter Try.func83,Try.ntmps83
   go_wp2
   go_ret
   exact ⟨BG (by simp[Gi,h1]),(yg _ _).alloc (yf _) _⟩
 ·have c:(op==0)=false:=by simpa using h0
  go_enter Try.func83,Try.ntmps83
  go_wp2
  go_ret
  exact ⟨BG (by simp[Gi,h0]),(yg _ _).alloc (yf _) _⟩
def Ce(w:World)(X:Value)(n size:Nat)(cells:LV):Prop:=
 cells.length=n*size∧(∀u∈cells,u.oneCell'=true)∧∃a cap,X=.slice a n cap∧(n=0∨∃b o,a=some ⟨b,o,none⟩∧b < w.heap.size∧∀j u,cells[j]?=some u->w.cell? ⟨b,o+j,none⟩=some u)
theorem Fx{t e:TypeId}{i:TypeInfo}{size:Nat}(f:Try.prog.underlying t=some (.slice e))(hi:Try.prog.info? e=some i)(w:World)(B:Nat)(ty:TypeId)(v:Value)(n:Nat)(xs:LV)(b:w.ownsRow B e size v n xs)(a:Option Addr)(c:Nat):
  (Builtin.append_ #[t,t] ty #[v,.slice a 0 c]).run Try.prog w=.ok v w:=by
 rcases b.2 with ⟨rfl,_⟩|⟨g,cap,j,rfl,_,_,d,h,_⟩
 ·cases a<;>simp[Builtin.append_,run_underlying f,sizeOf,typeInfo,hi,Builtin.lenOf,Builtin.firstCells,loadCells,loadCellsFrom]
 ·cases a<;>simp[Builtin.append_,run_underlying f,sizeOf,typeInfo,hi,Builtin.lenOf,Builtin.firstCells,storeCells,loadCells,loadCellsFrom,d]
theorem I0{ops:Array Oper}{o:Oper}{a:Act}{K:Act->World->Prop}{Q:QT}{E:Prop}{W:World}{t e:TypeId}{r:TypeInfo}{z:Value}{size d:Nat}(S:Try.prog.underlying t=some (.slice e))(hi:Try.prog.info? e=some r)(I:r.zero=some z)(N:r.size=size)(F:r.bytes=d)(L:z.cells.size=size)(D:0 < size)(G:d<=64)
 (B:Nat)(J:o.guard=none)(s x:Operand)(O:o.op=.call {callee:=.builtin .append,args:=#[s,x],argTypes:=#[t,t]})(v:Value)(n:Nat)(xs:LV)(hs:a.eval s=v)(f:W.ownsRow B e size v n xs)
 (X:Value)(m:Nat)(A:LV)(T:a.eval x=X)(V:Ce W X m size A)(w:n+m<=1000000)(l:B<=W.heap.size)
 (h:∀(y:Option Addr) (c:Nat) w',w'.ownsRow B e size (.slice y (n+m) c) (n+m) (xs++A)->W.grownBy w' v.ownBlock->K (a.put o.dst (.slice y (n+m) c)) w'):
  if Region.wanted o (yielded ops a.tmps)=true then Oper.wp Try.prog o a W K Q else E:=by
 have U:Region.wanted o (yielded ops a.tmps)=true:=by simp[Region.wanted,J]
 rw[yw U]
 obtain ⟨q,M,y,cap,rfl,k⟩:=V
 by_cases P:m=0
 ·subst P
  obtain rfl:A=[]:=ze.1 (by simpa using q)
  have p:=Fx S hi W B o.type v n xs f y cap
  obtain ⟨va,vc,rfl⟩:∃a c,v=.slice a n c:=by
   rcases f.2 with ⟨rfl,C⟩|⟨g,cap,H,rfl,_⟩
   ·exact ⟨none,0,by rw[C]⟩
   ·exact ⟨_,_,rfl⟩
  unfold Oper.wp
  simp[execOp,O,resolve,invoke,builtin,hs,T,p,Result.andThen]
  have R:=h va vc W (by simpa using f) ⟨rfl,rfl,rfl,yf _,fun _ _ _=>rfl⟩
  rw[qm] at R
  exact R
 ·obtain ⟨b,off,rfl,hb,hc⟩:=k.resolve_left P
  refine qu W s x t O B e r z size d S hi I N F L D v n xs hs f (aV b off) m cap A T q (fun j u Z=>?_) M (by unfold maxLen;omega) (by
   have:(n+m)*d<=1000000*64:=Nat.mul_le_mul w G
   omega) l ?_
  ·rw[zD];exact hc j u Z
  ·intro v' w' i Y _
   obtain ⟨va,vc,rfl⟩:∃a c,v'=.slice a (n+m) c:=by
    rcases i.2 with ⟨rfl,C⟩|⟨g,cap,H,rfl,_⟩
    ·exact ⟨none,0,by rw[C]⟩
    ·exact ⟨_,_,rfl⟩
   exact h va vc w' i Y
def AX(u:Us):LV:=[.pointer (some ⟨u.b,u.o,none⟩),.int .i64 u.to,.int .i64 u.at_]
def Dg(B:Nat)(w:World)(v:Value)(us:List Us):Prop:=w.ownsRow B 106 3 v us.length (us.flatMap AX)
theorem S7(B:Nat)(w:World):Dg B w (.slice none 0 0) []:=⟨rfl,.inl ⟨rfl,rfl⟩⟩
theorem De{ops:Array Oper}{o:Oper}{a:Act}{K:Act->World->Prop}{Q:QT}{E:Prop}{W:World}(B:Nat)(m:o.guard=none)(s x:Operand)(p:o.op=.call {callee:=.builtin .append,args:=#[s,x],argTypes:=#[151,151]})
 (v:Value)(us:List Us)(hs:a.eval s=v)(f:Dg B W v us)(X:Value)(b:List Us)(u:a.eval x=X)(r:Ce W X b.length 3 (b.flatMap AX))(g:us.length+b.length<=1000000)(e:B<=W.heap.size)
 (h:∀(j:Option Addr) (c:Nat) w',Dg B w' (.slice j (us.length+b.length) c) (us++b)->W.grownBy w' v.ownBlock->K (a.put o.dst (.slice j (us.length+b.length) c)) w'):
  if Region.wanted o (yielded ops a.tmps)=true then Oper.wp Try.prog o a W K Q else E:=by
 have d:(Try.prog.info? 106).map (fun i=>(i.zero,i.size,i.bytes))=some (some (.agg #[.pointer none,iV 0,iV 0]),3,24):=by kernel_rfl
 obtain ⟨w,hi,l,n,k⟩:=info_parts d
 exact I0 Try.underlying151 hi l n k rfl (by decide) (by decide) B m s x p v us.length _ hs f X b.length _ u r g e (fun j c w' q t=>h j c w' (by
  unfold Dg
  rw[yq,zG]
  exact q) t)
theorem NF{o:Oper}{a:Act}{K:Act->World->Prop}{Q:QT}{W:World}(B:Nat)(e:o.guard=none)(s x:Operand)(j:o.op=.call {callee:=.builtin .append,args:=#[s,x],argTypes:=#[151,151]})
 (v:Value)(us:List Us)(hs:a.eval s=v)(f:Dg B W v us)(X:Value)(b:List Us)(m:a.eval x=X)(l:Ce W X b.length 3 (b.flatMap AX))(g:us.length+b.length<=1000000)(d:B<=W.heap.size)
 (h:∀(i:Option Addr) (c:Nat) w',Dg B w' (.slice i (us.length+b.length) c) (us++b)->W.grownBy w' v.ownBlock->K (a.put o.dst (.slice i (us.length+b.length) c)) w'):Oper.wp Try.prog o a W K Q:=by
 have k:=De (ops:=#[]) (E:=True) (Q:=Q) B e s x j v us hs f X b m l g d h
 rwa [yw (by simp[Region.wanted,e])] at k
theorem Jq:∀us:List Us,(us.flatMap AX).length=us.length*3
 |[]=>rfl
 |x::r=>by rw[zv,yq,Jq r,yI];simp only[AX,yI,yM];omega
theorem Hf{w':World}{us:List Us}{b:Nat}(hb:w'.heap[b]?=some (.cells (us.flatMap AX).toArray 106 (0,0)))(c:Nat):Ce w' (.slice (some ⟨b,0,none⟩) us.length c) us.length 3 (us.flatMap AX):=by
 refine ⟨?_,?_,some (aV b 0),c,rfl,.inr ⟨b,0,rfl,(ye.1 hb).1,fun j u d=>?_⟩⟩
 ·exact Jq us
 ·intro u e
  obtain ⟨x,_,a⟩:=yQ.1 e
  simp[AX] at a
  rcases a with rfl|rfl|rfl<;>rfl
 ·simp only[World.cell?,hb]
  simpa using d

theorem Ln(n:Nat)(g:1<=n)(Bs:Nat)(L:Bw)(i:L.Ok):W8 Fence.wide n Try.prog 89 #[.pointer (some ⟨Bs,0,none⟩)] (Jo L Bs) (Cd L) none:=by
 intro l J Jx Jp W p d _ c b _ a h0
 refine (za.2 (Q9 n g l Bs L i J Jx Jp W ⟨p,d,c,b,fun k hk O W1 o m j=>a k hk O W1 o m j⟩ h0)).mono ?_
 rintro e W' (⟨f,h|h⟩|h)
 ·exact .inl ⟨f,.inl ⟨rfl,h⟩⟩
 ·exact .inl ⟨f,.inr h⟩
 ·exact .inr h
theorem Fy(s:Nat)(w:World):Calls Try.prog 67 #[.pointer (some ⟨s,0,none⟩)] w fun x w'=>x=.returned (.func (.func 89) #[] #[.pointer (some ⟨w.heap.size,0,none⟩)])∧w'=w.alloc (.cells #[.pointer (some ⟨s,0,none⟩)] 52):=by
 have a:∀(fn:Fn) (first cap:Array Value) (w:World),(Instr.makeFunc fn first cap).run Try.prog w=.ok (.func fn first cap) w:=fun _ _ _ _=>rfl
 go_enter Try.func67,Try.ntmps67
 go_wp2
 go_ret
 exact ⟨rfl,rfl⟩
def Ty(w:World)(b t:Nat):Prop:=∃c,w.heap[b]?=some (.cells c t (0,0))
theorem Ty.inj{w:World}{b t t':Nat}(h:Ty w b t)(a:Ty w b t'):t=t':=by
 obtain ⟨c,e⟩:=h
 obtain ⟨d,e'⟩:=a
 rw[e] at e'
 cases e';rfl
theorem Ty.lt{w:World}{b t:Nat}(h:Ty w b t):b < w.heap.size:=by
 obtain ⟨c,e⟩:=h
 exact (ye.1 e).1
def Gj(t o:Nat):Nat:=
 if t=35 then (if o=0 then 0 else if o < 19 then 1 else 0)
 else if t=55 then (if o % 7=0 then 0 else 1)
 else if t=57 then (if o % 7=0 then 0 else 1)
 else if t=51 then (if o % 51 < 2 then 0 else if o % 51=2 then 2 else 1)
 else if t=59 then (if o % 12=2 then 2 else if o % 12=11 then 2 else if o % 12 < 4 then 0 else if o % 12=10 then 0 else 1)
 else if t=64 then (if o % 23=2 then 2 else if o % 23 < 4 then 0 else if o % 23=22 then 0 else 1)
 else if t=66 then (if o % 8=0 then 0 else if o % 8=1 then 2 else 1)
 else if t=68 then (if o % 37=3 then 2 else if o % 37=5 then 2 else if o % 37 < 7 then 0 else 1)
 else if t=70 then (if o % 11=2 then 2 else if o % 11=4 then 2 else if o % 11 < 5 then 0 else 1)
 else 1
def GL(t o:Nat):Nat:=
 if t=35 then (o+5) % 6
 else if t=55 then (o % 7+5) % 6
 else if t=57 then (o % 7+5) % 6
 else if t=51 then (o % 51+3) % 6
 else if t=59 then (o % 12+2) % 6
 else if t=64 then (o % 23+2) % 6
 else if t=66 then (o % 8+4) % 6
 else if t=68 then (o % 37+5) % 6
 else if t=70 then (o % 11+1) % 6
 else o % 6
def Hg(w:World)(b o:Nat):Prop:=∃t,Ty w b t∧∀j,j < 6->Gj t (o+j)=1∧GL t (o+j)=j
theorem Hg.uniq{w:World}{b o a j j':Nat}(h:Hg w b o)(f:Hg w b a)(i:j < 6)(c:j' < 6)(g:o+j=a+j'):j=j'∧o=a:=by
 obtain ⟨t,h1,h2⟩:=h
 obtain ⟨t',e,d⟩:=f
 obtain rfl:=h1.inj e
 have e1:=(h2 j i).2
 have e2:=(d j' c).2
 rw[g,e2] at e1
 omega
def Qa(w:World)(b o:Nat):Prop:=∃t,Ty w b t∧Gj t o=0∧Gj t (o+1)=2
def OA(w:World)(b o:Nat):Prop:=∃t,Ty w b t∧Gj t o=0
def EN{α:Type}(N:NP)(w:World)(t sz:Nat)(P:Nat->Nat->Nat->α->Prop)(h:Ai)(l:List α):Prop:=
 h.n=l.length∧l.length<=140737488355328∧∀i (hi:i < l.length),∃g,h.a=some ⟨g,0,none⟩∧N g∧Ty w g t∧P i g (i*sz) l[i]
theorem EN.ok{α:Type}{N:NP}{w:World}{t sz:Nat}{P:Nat->Nat->Nat->α->Prop}{h:Ai}{l:List α}(a:EN N w t sz P h l):h.ok:=by
 obtain ⟨h1,h2,h3⟩:=a
 refine ⟨by omega,fun b=>?_⟩
 obtain ⟨g,g1,_⟩:=h3 0 (by omega)
 exact ⟨g,0,g1⟩
theorem EN.map{α:Type}{N:NP}{w w':World}{t sz:Nat}{P e:Nat->Nat->Nat->α->Prop}{h:Ai}{l:List α}{f:Nat->α->α}(j:EN N w t sz P h l)(k:∀b,N b->Ty w b t->Ty w' b t)(n:∀i g d,N g->Ty w g t->P i g (i*sz) d->e i g (i*sz) (f i d)):EN N w' t sz e h (l.mapIdx f):=by
 obtain ⟨h1,h2,h3⟩:=j
 refine ⟨by rw[xS];exact h1,by rw[xS];exact h2,fun i hi=>?_⟩
 rw[xS] at hi
 obtain ⟨g,g1,a,c,m⟩:=h3 i hi
 refine ⟨g,g1,a,k g a c,?_⟩
 rw[zs]
 exact n i g _ a c m
section
variable(N:NP)(E:Int->Ex->Nat->Nat->Prop)(R:Int->Rf->Nat->Nat->Prop)(w:World)
def Lo(s:ByteArray)(g o:Nat):Prop:=s.size<=maxLen∧w.cell? ⟨g,o,none⟩=some (.string s)
def WM(i g o:Nat)(d:CF):Prop:=Lo w d.name g o∧E (1+(i:Int)) d.value g (o+1)
def VN(_ g o:Nat)(d:Br):Prop:=Lo w d.name g o∧E 0 d.need g (o+1)
def Tp(i g o:Nat)(d:At):Prop:=Lo w d.name g o∧R (if i=0 then 0 else 6) d.frm g (o+1)∧E 0 d.delay g (o+3)∧E 0 d.cap g (o+9)∧E 0 d.bank g (o+15)∧E 0 d.siphon g (o+21)∧E 0 d.evap0 g (o+27)∧E 0 d.evap1 g (o+33)∧E 0 d.seep0 g (o+39)∧E 0 d.seep1 g (o+45)
def VO(_ g o:Nat)(d:Bd):Prop:=Lo w d.name g o∧R 4 d.on g (o+1)∧w.cell? ⟨g,o+3,none⟩=some (.bool d.river)∧E 0 d.area g (o+4)∧R (if d.river then 0 else 3) d.crop g (o+10)
def VP(_ g o:Nat)(d:Bv):Prop:=R 5 d.farm g o∧E 0 d.len g (o+2)
def Wb(h:Nat->Ai)(i g o:Nat)(d:B6):Prop:=Lo w d.name g o∧R 4 d.on g (o+1)∧w.cell? ⟨g,o+3,none⟩=some (.int .i64 d.rank)∧E 0 d.flow g (o+4)∧E 0 d.frm g (o+10)∧E 0 d.to g (o+16)∧w.cell? ⟨g,o+22,none⟩=some (h i).v∧EN N w 66 8 (VP E R) (h i) d.turns
def Tq(_ g o:Nat)(d:AG):Prop:=w.cell? ⟨g,o,none⟩=some (.int .i64 d.kind)∧Lo w d.name g (o+1)∧R 5 d.farm g (o+2)∧R (if d.kind=1 then 0 else 4) d.reach g (o+4)∧w.cell? ⟨g,o+6,none⟩=some (.int .i64 d.rank)∧E 0 d.flow g (o+7)∧E 0 d.frm g (o+13)∧E 0 d.to g (o+19)∧E 0 d.every g (o+25)∧E 0 d.len g (o+31)
def VQ(_ g o:Nat)(d:BR):Prop:=Lo w d.name g o∧R 5 d.farm g (o+1)∧R 4 d.reach g (o+3)∧E 0 d.due g (o+5)
structure Cy (L:Bw) (x:Am):Prop where
 ty:Ty w L.s 35
 name:Lo w x.name L.s 0
 season:E 0 x.season L.s 1
 cap:E 0 x.cap L.s 7
 start:E 0 x.start L.s 13
 hlets:w.cell? ⟨L.s,19,none⟩=some L.lets.v
 hcrops:w.cell? ⟨L.s,20,none⟩=some L.crops.v
 hreaches:w.cell? ⟨L.s,21,none⟩=some L.reaches.v
 hfarms:w.cell? ⟨L.s,22,none⟩=some L.farms.v
 hrots:w.cell? ⟨L.s,23,none⟩=some L.rots.v
 hrights:w.cell? ⟨L.s,24,none⟩=some L.rights.v
 hduties:w.cell? ⟨L.s,25,none⟩=some L.duties.v
 lets:EN N w 55 7 (WM E w) L.lets x.lets
 crops:EN N w 57 7 (VN E w) L.crops x.crops
 reaches:EN N w 51 51 (Tp E R w) L.reaches x.reaches
 farms:EN N w 59 12 (VO E R w) L.farms x.farms
 rots:EN N w 64 23 (Wb N E R w (A4 L)) L.rots x.rots
 rights:EN N w 68 37 (Tq E R w) L.rights x.rights
 duties:EN N w 70 11 (VQ E R w) L.duties x.duties
end
section
variable(f:Int->Ex->Ex)(g:Int->Rf->Rf)
def CF.mp(i:Nat)(d:CF):CF:={d with value:=f (1+(i:Int)) d.value}
def Br.mp(_:Nat)(d:Br):Br:={d with need:=f 0 d.need}
def At.mp(i:Nat)(d:At):At:={d with frm:=g (if i=0 then 0 else 6) d.frm,delay:=f 0 d.delay,cap:=f 0 d.cap,bank:=f 0 d.bank,siphon:=f 0 d.siphon,evap0:=f 0 d.evap0,evap1:=f 0 d.evap1,seep0:=f 0 d.seep0,seep1:=f 0 d.seep1}
def Bd.mp(_:Nat)(d:Bd):Bd:={d with on:=g 4 d.on,area:=f 0 d.area,crop:=g (if d.river then 0 else 3) d.crop}
def Bv.mp(_:Nat)(d:Bv):Bv:={farm:=g 5 d.farm,len:=f 0 d.len}
def B6.mp(_:Nat)(d:B6):B6:={d with on:=g 4 d.on,flow:=f 0 d.flow,frm:=f 0 d.frm,to:=f 0 d.to,turns:=d.turns.mapIdx (Bv.mp f g)}
def AG.mp(_:Nat)(d:AG):AG:={d with farm:=g 5 d.farm,reach:=g (if d.kind=1 then 0 else 4) d.reach,flow:=f 0 d.flow,frm:=f 0 d.frm,to:=f 0 d.to,every:=f 0 d.every,len:=f 0 d.len}
def BR.mp(_:Nat)(d:BR):BR:={d with farm:=g 5 d.farm,reach:=g 4 d.reach,due:=f 0 d.due}
def Am.mp(x:Am):Am:=
 {x with season:=f 0 x.season,cap:=f 0 x.cap,start:=f 0 x.start,lets:=x.lets.mapIdx (CF.mp f),crops:=x.crops.mapIdx (Br.mp f),reaches:=x.reaches.mapIdx (At.mp f g),farms:=x.farms.mapIdx (Bd.mp f g),rots:=x.rots.mapIdx (B6.mp f g),rights:=x.rights.mapIdx (AG.mp f g),duties:=x.duties.mapIdx (BR.mp f g)}
end
def Qb(t sz:Nat):Prop:=(t=55∧sz=7)∨(t=57∧sz=7)∨(t=51∧sz=51)∨(t=59∧sz=12)∨(t=64∧sz=23)∨(t=66∧sz=8)∨(t=68∧sz=37)∨(t=70∧sz=11)
theorem DF{t sz:Nat}(h:Qb t sz)(i c:Nat):Gj t (i*sz+c)=Gj t c∧GL t (i*sz+c)=GL t c:=by
 rcases h with ⟨rfl,rfl⟩|⟨rfl,rfl⟩|⟨rfl,rfl⟩|⟨rfl,rfl⟩|⟨rfl,rfl⟩|⟨rfl,rfl⟩|⟨rfl,rfl⟩|⟨rfl,rfl⟩
 ·have e:(i*7+c) % 7=c % 7:=by omega
  simp[Gj,GL,e]
 ·have e:(i*7+c) % 7=c % 7:=by omega
  simp[Gj,GL,e]
 ·have e:(i*51+c) % 51=c % 51:=by omega
  simp[Gj,GL,e]
 ·have e:(i*12+c) % 12=c % 12:=by omega
  simp[Gj,GL,e]
 ·have e:(i*23+c) % 23=c % 23:=by omega
  simp[Gj,GL,e]
 ·have e:(i*8+c) % 8=c % 8:=by omega
  simp[Gj,GL,e]
 ·have e:(i*37+c) % 37=c % 37:=by omega
  simp[Gj,GL,e]
 ·have e:(i*11+c) % 11=c % 11:=by omega
  simp[Gj,GL,e]
theorem BC{w:World}{g t sz:Nat}(h:Ty w g t)(a:Qb t sz)(i c:Nat)(h1:∀j,j < 6->Gj t (c+j)=1∧GL t (c+j)=j):Hg w g (i*sz+c):=
 ⟨t,h,fun j b=>by rw[zR,(DF a i (c+j)).1,(DF a i (c+j)).2];exact h1 j b⟩
theorem E9{w:World}{g t sz:Nat}(h:Ty w g t)(a:Qb t sz)(i c:Nat)(h1:Gj t c=0):OA w g (i*sz+c):=⟨t,h,by rw[(DF a i c).1];exact h1⟩
theorem ES{w:World}{g t sz:Nat}(h:Ty w g t)(a:Qb t sz)(i:Nat)(h1:Gj t 0=0):OA w g (i*sz):=E9 h a i 0 h1
theorem Cf{w:World}{g t sz:Nat}(h:Ty w g t)(a:Qb t sz)(i c:Nat)(h1:Gj t c=0)(h2:Gj t (c+1)=2):Qa w g (i*sz+c):=
 ⟨t,h,by rw[(DF a i c).1];exact h1,by rw[zR,(DF a i (c+1)).1];exact h2⟩
theorem MH{w:World}{g t sz:Nat}(h:Ty w g t)(a:Qb t sz)(i:Nat)(h1:Gj t 0=0)(h2:Gj t 1=2):Qa w g (i*sz):=Cf h a i 0 h1 h2
theorem Tr:Qb 55 7:=.inl ⟨rfl,rfl⟩
theorem Qc:Qb 57 7:=.inr (.inl ⟨rfl,rfl⟩)
theorem Cl:Qb 51 51:=.inr (.inr (.inl ⟨rfl,rfl⟩))
theorem FX:Qb 59 12:=.inr (.inr (.inr (.inl ⟨rfl,rfl⟩)))
theorem Gk:Qb 64 23:=.inr (.inr (.inr (.inr (.inl ⟨rfl,rfl⟩))))
theorem Lp:Qb 66 8:=.inr (.inr (.inr (.inr (.inr (.inl ⟨rfl,rfl⟩)))))
theorem Cm:Qb 68 37:=.inr (.inr (.inr (.inr (.inr (.inr (.inl ⟨rfl,rfl⟩))))))
theorem Hh:Qb 70 11:=.inr (.inr (.inr (.inr (.inr (.inr (.inr ⟨rfl,rfl⟩))))))
section
variable{N:NP}{E E':Int->Ex->Nat->Nat->Prop}{R R':Int->Rf->Nat->Nat->Prop}{w w':World}{f:Int->Ex->Ex}{g:Int->Rf->Rf}
theorem Lo.same{s:ByteArray}{b o:Nat}(h:Lo w s b o)(a:w'.cell? ⟨b,o,none⟩=w.cell? ⟨b,o,none⟩):Lo w' s b o:=⟨h.1,a.trans h.2⟩
theorem Cy.map{L:Bw}{x:Am}(h:Cy N E R w L x)(l:∀b t,(N b∨b=L.s)->Ty w b t->Ty w' b t)(c:∀b o,(N b∨b=L.s)->OA w b o->w'.cell? ⟨b,o,none⟩=w.cell? ⟨b,o,none⟩)
 (a:∀lt e b o,(N b∨b=L.s)->Hg w b o->E lt e b o->E' lt (f lt e) b o)(k:∀to r b o,(N b∨b=L.s)->Qa w b o->R to r b o->R' to (g to r) b o):Cy N E' R' w' L (x.mp f g):=by
 have m:∀o,Gj 35 o=0->w'.cell? (aV L.s o)=w.cell? (aV L.s o):=fun o u=>c _ _ (.inr rfl) ⟨_,h.ty,u⟩
 have v:∀lt e o,(∀j,j < 6->Gj 35 (o+j)=1∧GL 35 (o+j)=j)->E lt e L.s o->E' lt (f lt e) L.s o:=fun lt e o u=>a lt e _ _ (.inr rfl) ⟨_,h.ty,u⟩
 refine ⟨l _ _ (.inr rfl) h.ty,h.name.same (m 0 rfl),v _ _ _ (by decide) h.season,v _ _ _ (by decide) h.cap,v _ _ _ (by decide) h.start,(m _ rfl).trans h.hlets,(m _ rfl).trans h.hcrops,(m _ rfl).trans h.hreaches,(m _ rfl).trans h.hfarms,(m _ rfl).trans h.hrots,(m _ rfl).trans h.hrights,(m _ rfl).trans h.hduties,?_,?_,?_,?_,?_,?_,?_⟩
 ·refine h.lets.map (fun b hb=>l b _ (.inl hb)) fun i b d hb ty ⟨h1,h2⟩=>?_
  exact ⟨h1.same (c _ _ (.inl hb) (ES ty Tr i rfl)),a _ _ _ _ (.inl hb) (BC ty Tr i 1 (by decide)) h2⟩
 ·refine h.crops.map (fun b hb=>l b _ (.inl hb)) fun i b d hb ty ⟨h1,h2⟩=>?_
  exact ⟨h1.same (c _ _ (.inl hb) (ES ty Qc i rfl)),a _ _ _ _ (.inl hb) (BC ty Qc i 1 (by decide)) h2⟩
 ·refine h.reaches.map (fun b hb=>l b _ (.inl hb)) fun i b d hb ty ⟨h1,h2,q,n,p,y,z,C,A,B⟩=>?_
  exact ⟨h1.same (c _ _ (.inl hb) (ES ty Cl i rfl)),k _ _ _ _ (.inl hb) (Cf ty Cl i 1 rfl rfl) h2,
   a _ _ _ _ (.inl hb) (BC ty Cl i 3 (by decide)) q,a _ _ _ _ (.inl hb) (BC ty Cl i 9 (by decide)) n,a _ _ _ _ (.inl hb) (BC ty Cl i 15 (by decide)) p,a _ _ _ _ (.inl hb) (BC ty Cl i 21 (by decide)) y,
   a _ _ _ _ (.inl hb) (BC ty Cl i 27 (by decide)) z,a _ _ _ _ (.inl hb) (BC ty Cl i 33 (by decide)) C,a _ _ _ _ (.inl hb) (BC ty Cl i 39 (by decide)) A,a _ _ _ _ (.inl hb) (BC ty Cl i 45 (by decide)) B⟩
 ·refine h.farms.map (fun b hb=>l b _ (.inl hb)) fun i b d hb ty ⟨h1,h2,h3,h4,h5⟩=>?_
  exact ⟨h1.same (c _ _ (.inl hb) (ES ty FX i rfl)),k _ _ _ _ (.inl hb) (Cf ty FX i 1 rfl rfl) h2,(c _ _ (.inl hb) (E9 ty FX i 3 rfl)).trans h3,
   a _ _ _ _ (.inl hb) (BC ty FX i 4 (by decide)) h4,k _ _ _ _ (.inl hb) (Cf ty FX i 10 rfl rfl) h5⟩
 ·refine h.rots.map (fun b hb=>l b _ (.inl hb)) fun i b d hb ty ⟨h1,h2,h3,q,n,p,h4,h5⟩=>?_
  refine ⟨h1.same (c _ _ (.inl hb) (ES ty Gk i rfl)),k _ _ _ _ (.inl hb) (Cf ty Gk i 1 rfl rfl) h2,(c _ _ (.inl hb) (E9 ty Gk i 3 rfl)).trans h3,
   a _ _ _ _ (.inl hb) (BC ty Gk i 4 (by decide)) q,a _ _ _ _ (.inl hb) (BC ty Gk i 10 (by decide)) n,a _ _ _ _ (.inl hb) (BC ty Gk i 16 (by decide)) p,(c _ _ (.inl hb) (E9 ty Gk i 22 rfl)).trans h4,?_⟩
  refine h5.map (fun b hb=>l b _ (.inl hb)) fun i b d hb ty ⟨h1,h2⟩=>?_
  exact ⟨k _ _ _ _ (.inl hb) (MH ty Lp i rfl rfl) h1,a _ _ _ _ (.inl hb) (BC ty Lp i 2 (by decide)) h2⟩
 ·refine h.rights.map (fun b hb=>l b _ (.inl hb)) fun i b d hb ty ⟨h0,h1,h2,h3,h4,q,n,p,y,z⟩=>?_
  exact ⟨(c _ _ (.inl hb) (ES ty Cm i rfl)).trans h0,h1.same (c _ _ (.inl hb) (E9 ty Cm i 1 rfl)),k _ _ _ _ (.inl hb) (Cf ty Cm i 2 rfl rfl) h2,k _ _ _ _ (.inl hb) (Cf ty Cm i 4 rfl rfl) h3,
   (c _ _ (.inl hb) (E9 ty Cm i 6 rfl)).trans h4,a _ _ _ _ (.inl hb) (BC ty Cm i 7 (by decide)) q,a _ _ _ _ (.inl hb) (BC ty Cm i 13 (by decide)) n,a _ _ _ _ (.inl hb) (BC ty Cm i 19 (by decide)) p,a _ _ _ _ (.inl hb) (BC ty Cm i 25 (by decide)) y,a _ _ _ _ (.inl hb) (BC ty Cm i 31 (by decide)) z⟩
 ·refine h.duties.map (fun b hb=>l b _ (.inl hb)) fun i b d hb ty ⟨h1,h2,h3,h4⟩=>?_
  exact ⟨h1.same (c _ _ (.inl hb) (ES ty Hh i rfl)),k _ _ _ _ (.inl hb) (Cf ty Hh i 1 rfl rfl) h2,k _ _ _ _ (.inl hb) (Cf ty Hh i 3 rfl rfl) h3,a _ _ _ _ (.inl hb) (BC ty Hh i 5 (by decide)) h4⟩
end
def WJ(N:NP)(E:Int->Ex->Nat->Nat->Prop)(w:World)(a:Array Value)(e:KD):Prop:=∃b o,a=#[.pointer (some ⟨b,o,none⟩),.int .i64 e.2]∧N b∧Hg w b o∧E e.2 e.1 b o
section
variable{N:NP}{E:Int->Ex->Nat->Nat->Prop}{R:Int->Rf->Nat->Nat->Prop}{w:World}
theorem D9{h:Ai}{g sz i off t:Nat}{e:Ex}{lt:Int}(b:h.a=some ⟨g,0,none⟩)(hN:N g)(ty:Ty w g t)(d:Qb t sz)(h1:∀j,j < 6->Gj t (off+j)=1∧GL t (off+j)=j)(c:E lt e g (i*sz+off)):WJ N E w #[h.ptr sz i off,.int .i64 lt] (e,lt):=
 ⟨g,i*sz+off,by unfold Ai.ptr;rw[Be b,yB],hN,BC ty d i off h1,c⟩
theorem Cy.all2{L:Bw}{x:Am}(h:Cy N E R w L x)(hs:N L.s):Az (WJ N E w) (Cd L) (AN x):=by
 refine Az.append ?_ (Az.append ?_ (Az.append ?_ (Az.append ?_ (Az.append ?_ (Az.append ?_ (Az.append ?_ ?_))))))
 ·exact ⟨⟨L.s,1,rfl,hs,⟨_,h.ty,by decide⟩,h.season⟩,⟨L.s,7,rfl,hs,⟨_,h.ty,by decide⟩,h.cap⟩,⟨L.s,13,rfl,hs,⟨_,h.ty,by decide⟩,h.start⟩,trivial⟩
 ·obtain ⟨h1,h2,h3⟩:=h.lets
  refine Bt _ (fun i (d:CF)=> [(d.value,1+(i:Int))]) x.lets _ h1 fun i hi=>?_
  obtain ⟨g,g1,a,ty,m,f⟩:=h3 i hi
  exact ⟨D9 g1 a ty Tr (by decide) f,trivial⟩
 ·obtain ⟨h1,h2,h3⟩:=h.crops
  refine Bt _ (fun i (d:Br)=> [(d.need,0)]) x.crops _ h1 fun i hi=>?_
  obtain ⟨g,g1,a,ty,m,f⟩:=h3 i hi
  exact ⟨D9 g1 a ty Qc (by decide) f,trivial⟩
 ·obtain ⟨h1,h2,h3⟩:=h.reaches
  refine Bt _ (fun i (d:At)=> [(d.delay,0),(d.cap,0),(d.bank,0),(d.siphon,0),(d.evap0,0),(d.evap1,0),(d.seep0,0),(d.seep1,0)]) x.reaches _ h1 fun i hi=>?_
  obtain ⟨g,g1,a,ty,m,f,b,c,e,j,l,q,n,o⟩:=h3 i hi
  exact ⟨D9 g1 a ty Cl (by decide) b,D9 g1 a ty Cl (by decide) c,D9 g1 a ty Cl (by decide) e,D9 g1 a ty Cl (by decide) j,D9 g1 a ty Cl (by decide) l,D9 g1 a ty Cl (by decide) q,D9 g1 a ty Cl (by decide) n,D9 g1 a ty Cl (by decide) o,trivial⟩
 ·obtain ⟨h1,h2,h3⟩:=h.farms
  refine Bt _ (fun i (d:Bd)=> [(d.area,0)]) x.farms _ h1 fun i hi=>?_
  obtain ⟨g,g1,a,ty,_,_,_,b,_⟩:=h3 i hi
  exact ⟨D9 g1 a ty FX (by decide) b,trivial⟩
 ·obtain ⟨h1,h2,h3⟩:=h.rots
  refine Bt _ (fun i (d:B6)=> [(d.flow,0),(d.frm,0),(d.to,0)]++DD d.turns) x.rots _ h1 fun i hi=>?_
  obtain ⟨g,g1,a,ty,_,_,_,b,c,e,_,hl,hc,p⟩:=h3 i hi
  refine Az.append ⟨D9 g1 a ty Gk (by decide) b,D9 g1 a ty Gk (by decide) c,D9 g1 a ty Gk (by decide) e,trivial⟩ ?_
  refine Bt _ (fun k (d:Bv)=> [(d.len,0)]) (x.rots[i]).turns _ hl fun k hk=>?_
  obtain ⟨g,g1,a,ty,_,b⟩:=p k hk
  exact ⟨D9 g1 a ty Lp (by decide) b,trivial⟩
 ·obtain ⟨h1,h2,h3⟩:=h.rights
  refine Bt _ (fun i (d:AG)=> [(d.flow,0),(d.frm,0),(d.to,0),(d.every,0),(d.len,0)]) x.rights _ h1 fun i hi=>?_
  obtain ⟨g,g1,a,ty,_,_,_,_,_,b,c,e,j,l⟩:=h3 i hi
  exact ⟨D9 g1 a ty Cm (by decide) b,D9 g1 a ty Cm (by decide) c,D9 g1 a ty Cm (by decide) e,D9 g1 a ty Cm (by decide) j,D9 g1 a ty Cm (by decide) l,trivial⟩
 ·obtain ⟨h1,h2,h3⟩:=h.duties
  refine Bt _ (fun i (d:BR)=> [(d.due,0)]) x.duties _ h1 fun i hi=>?_
  obtain ⟨g,g1,a,ty,_,_,_,b⟩:=h3 i hi
  exact ⟨D9 g1 a ty Hh (by decide) b,trivial⟩
end
def EV(N:NP)(w:World)(_:Int)(e:Ex)(b o:Nat):Prop:=∃c,w.rangeAt b o c∧AS N w e c
def RV(w:World)(_:Int)(r:Rf)(b o:Nat):Prop:=r.name.size<=maxLen∧w.cell? ⟨b,o,none⟩=some (.string r.name)∧w.cell? ⟨b,o+1,none⟩=some (.int .i64 r.n)
theorem A6{w:World}{b o:Nat}{v:Value}{l:LV}(h:w.cell? ⟨b,o,none⟩=some v)(hl:w.rangeAt b (o+1) l):w.rangeAt b o (v::l):=fun j u a=>by
 cases j with
 |zero=>simp at a;subst a;exact h
 |succ j=>have:=hl j u (by simpa using a);rw[show o+(j+1)=o+1+j by omega];exact this
theorem Jr{w:World}{b o:Nat}{l m:LV}(h:w.rangeAt b o l)(d:w.rangeAt b (o+l.length) m):w.rangeAt b o (l++m):=fun j u a=>by
 rcases zS j l.length with c|c
 ·rw[zC c] at a;exact h j u a
 ·rw[yL c] at a
  have:=d (j - l.length) u a
  rw[show o+l.length+(j - l.length)=o+j by omega] at this;exact this
theorem S8(w:World)(b o:Nat):w.rangeAt b o []:=fun j u a=>by simp at a
theorem Cn{w:World}{b o:Nat}{v:Value}(h:w.cell? ⟨b,o,none⟩=some v):w.rangeAt b o [v]:=A6 h (S8 _ _ _)
theorem MJ{w:World}{to:Int}{r:Rf}{b o:Nat}(h:RV w to r b o):w.rangeAt b o (An r):=A6 h.2.1 (Cn h.2.2)
theorem BF{w:World}{b o:Nat}{c l:LV}(hc:c.length=6)(h:w.rangeAt b o c)(hl:w.rangeAt b (o+6) l):w.rangeAt b o (c++l):=Jr h (by rw[hc];exact hl)
theorem Fe{w:World}{to:Int}{r:Rf}{b o:Nat}{l:LV}(h:RV w to r b o)(hl:w.rangeAt b (o+2) l):w.rangeAt b o (An r++l):=Jr (MJ h) hl
theorem EN.isRow{α:Type}{N:NP}{w:World}{t sz:Nat}{P:Nat->Nat->Nat->α->Prop}{h:Ai}{l:List α}{Q:LV->α->Prop}(b:EN N w t sz P h l)(k:∀i g d,P i g (i*sz) d->∃cs,cs.length=sz∧w.rangeAt g (i*sz) cs∧Q cs d):Av N w sz Q h l:=by
 obtain ⟨h1,h2,h3⟩:=b
 refine ⟨h1,h2,fun i hi=>?_⟩
 obtain ⟨g,g1,e,ty,j⟩:=h3 i hi
 obtain ⟨cs,f,c,a⟩:=k i g _ j
 exact ⟨g,0,cs,g1,e,f,by rw[yB];exact c,a⟩
theorem Cy.srcV{N:NP}{w:World}{L:Bw}{x:Am}(h:Cy N (EV N w) (RV w) w L x):∃cs,cs.length=26∧w.rangeAt L.s 0 cs∧Bb N w L cs x:=by
 obtain ⟨c0,r0,v0⟩:=h.season
 obtain ⟨c1,r1,c⟩:=h.cap
 obtain ⟨c2,r2,f⟩:=h.start
 have a:=v0.len;have j:=c.len;have e:=f.len
 refine ⟨.string x.name::(c0++(c1++(c2++[L.lets.v,L.crops.v,L.reaches.v,L.farms.v,L.rots.v,L.rights.v,L.duties.v]))),by simp[a,j,e],?_,?_⟩
 ·exact A6 h.name.2 (BF a r0 (BF j r1 (BF e r2 (A6 h.hlets (A6 h.hcrops (A6 h.hreaches (A6 h.hfarms (A6 h.hrots (A6 h.hrights (Cn h.hduties))))))))))
 refine ⟨h.name.1,⟨c0,c1,c2,rfl,v0,c,f⟩,?_,?_,?_,?_,?_,?_,?_⟩
 ·refine h.lets.isRow fun i g d ⟨h1,c0,r0,v0⟩=>?_
  have a:=v0.len
  exact ⟨.string d.name::c0,by simp[a],A6 h1.2 r0,h1.1,c0,rfl,v0⟩
 ·refine h.crops.isRow fun i g d ⟨h1,c0,r0,v0⟩=>?_
  have a:=v0.len
  exact ⟨.string d.name::c0,by simp[a],A6 h1.2 r0,h1.1,c0,rfl,v0⟩
 ·refine h.reaches.isRow fun i g d ⟨h1,b,⟨c0,r0,v0⟩,⟨c1,r1,c⟩,⟨c2,r2,f⟩,⟨m,p,v3⟩,⟨c4,o,v4⟩,⟨z,r5,v5⟩,⟨t,G,v6⟩,⟨y,C,A⟩⟩=>?_
  have a:=v0.len;have j:=c.len;have e:=f.len;have l:=v3.len;have n:=v4.len;have r:=v5.len;have u:=v6.len;have F:=A.len
  exact ⟨.string d.name::(An d.frm++(c0++(c1++(c2++(m++(c4++(z++(t++y)))))))),by simp[A8,a,j,e,l,n,r,u,F],
   A6 h1.2 (Fe b (BF a r0 (BF j r1 (BF e r2 (BF l p (BF n o (BF r r5 (BF u G C)))))))),h1.1,b.1,c0,c1,c2,m,c4,z,t,y,rfl,v0,c,f,v3,v4,v5,v6,A⟩
 ·refine h.farms.isRow fun i g d ⟨h1,b,k,⟨c0,r0,v0⟩,hc⟩=>?_
  have a:=v0.len
  exact ⟨.string d.name::(An d.on++(.bool d.river::(c0++An d.crop))),by simp[A8,a],A6 h1.2 (Fe b (A6 k (BF a r0 (MJ hc)))),h1.1,b.1,hc.1,c0,rfl,v0⟩
 ·obtain ⟨h1,h2,h3⟩:=h.rots
  refine ⟨h1,h2,fun i hi=>?_⟩
  obtain ⟨g,g1,D,ty,q,b,k,⟨c0,r0,v0⟩,⟨c1,r1,c⟩,⟨c2,r2,f⟩,B,E⟩:=h3 i hi
  have a:=v0.len;have j:=c.len;have e:=f.len
  refine ⟨g,0,.string (x.rots[i]).name::(An (x.rots[i]).on++(iV (x.rots[i]).rank::(c0++(c1++(c2++[(A4 L i).v]))))),g1,D,by simp[A8,a,j,e],?_,q.1,b.1,c0,c1,c2,rfl,v0,c,f,?_⟩
  ·rw[yB]
   exact A6 q.2 (Fe b (A6 k (BF a r0 (BF j r1 (BF e r2 (Cn B))))))
  ·refine E.isRow fun i g d ⟨b,c0,r0,v0⟩=>?_
   have a:=v0.len
   exact ⟨An d.farm++c0,by simp[A8,a],Fe b r0,b.1,c0,rfl,v0⟩
 ·refine h.rights.isRow fun i g d ⟨h0,h1,b,hc,k,⟨c0,r0,v0⟩,⟨c1,r1,c⟩,⟨c2,r2,f⟩,⟨m,p,v3⟩,⟨c4,o,v4⟩⟩=>?_
  have a:=v0.len;have j:=c.len;have e:=f.len;have l:=v3.len;have n:=v4.len
  exact ⟨iV d.kind::.string d.name::(An d.farm++(An d.reach++(iV d.rank::(c0++(c1++(c2++(m++c4))))))),by simp[A8,a,j,e,l,n],
   A6 h0 (A6 h1.2 (Fe b (Fe hc (A6 k (BF a r0 (BF j r1 (BF e r2 (BF l p o)))))))),h1.1,b.1,hc.1,c0,c1,c2,m,c4,rfl,v0,c,f,v3,v4⟩
 ·refine h.duties.isRow fun i g d ⟨h1,b,hc,⟨c0,r0,v0⟩⟩=>?_
  have a:=v0.len
  exact ⟨.string d.name::(An d.farm++(An d.reach++c0)),by simp[A8,a],A6 h1.2 (Fe b (Fe hc r0)),h1.1,b.1,hc.1,c0,rfl,v0⟩
theorem KF{ops:Array Oper}{o:Oper}{a:Act}{K:Act->World->Prop}{Q:QT}{E:Prop}{W:World}{t e:TypeId}{r:TypeInfo}{z:Value}{size d:Nat}(S:Try.prog.underlying t=some (.slice e))(hi:Try.prog.info? e=some r)(I:r.zero=some z)(N:r.size=size)(F:r.bytes=d)(L:z.cells.size=size)(D:0 < size)(G:d<=10000)
 (B:Nat)(J:o.guard=none)(s x:Operand)(O:o.op=.call {callee:=.builtin .append,args:=#[s,x],argTypes:=#[t,t]})(v:Value)(n:Nat)(xs:LV)(hs:a.eval s=v)(f:W.ownsRow B e size v n xs)
 (X:Value)(m:Nat)(A:LV)(T:a.eval x=X)(V:Ce W X m size A)(w:n+m<=1000000)(l:B<=W.heap.size)
 (h:∀(y:Option Addr) (c:Nat) w',w'.ownsRow B e size (.slice y (n+m) c) (n+m) (xs++A)->W.grownBy w' v.ownBlock->K (a.put o.dst (.slice y (n+m) c)) w'):
  if Region.wanted o (yielded ops a.tmps)=true then Oper.wp Try.prog o a W K Q else E:=by
 have U:Region.wanted o (yielded ops a.tmps)=true:=by simp[Region.wanted,J]
 rw[yw U]
 obtain ⟨q,M,y,cap,rfl,k⟩:=V
 by_cases P:m=0
 ·subst P
  obtain rfl:A=[]:=ze.1 (by simpa using q)
  have p:=Fx S hi W B o.type v n xs f y cap
  obtain ⟨va,vc,rfl⟩:∃a c,v=.slice a n c:=by
   rcases f.2 with ⟨rfl,C⟩|⟨g,cap,H,rfl,_⟩
   ·exact ⟨none,0,by rw[C]⟩
   ·exact ⟨_,_,rfl⟩
  unfold Oper.wp
  simp[execOp,O,resolve,invoke,builtin,hs,T,p,Result.andThen]
  have R:=h va vc W (by simpa using f) ⟨rfl,rfl,rfl,yf _,fun _ _ _=>rfl⟩
  rw[qm] at R
  exact R
 ·obtain ⟨b,off,rfl,hb,hc⟩:=k.resolve_left P
  refine qu W s x t O B e r z size d S hi I N F L D v n xs hs f (aV b off) m cap A T q (fun j u Z=>?_) M (by unfold maxLen;omega) (by
   have:(n+m)*d<=1000000*10000:=Nat.mul_le_mul w G
   omega) l ?_
  ·rw[zD];exact hc j u Z
  ·intro v' w' i Y _
   obtain ⟨va,vc,rfl⟩:∃a c,v'=.slice a (n+m) c:=by
    rcases i.2 with ⟨rfl,C⟩|⟨g,cap,H,rfl,_⟩
    ·exact ⟨none,0,by rw[C]⟩
    ·exact ⟨_,_,rfl⟩
   exact h va vc w' i Y
theorem Js{ops:Array Oper}{o:Oper}{a:Act}{rest:List Oper}{Q:QT}{W:World}{t e:TypeId}{j:TypeInfo}{z:Value}{size b:Nat}(F:Try.prog.underlying t=some (.slice e))(hi:Try.prog.info? e=some j)(r:j.zero=some z)(y:j.size=size)(p:j.bytes=b)(w:z.cells.size=size)(l:0 < size)(q:b<=10000)
 (B:Nat)(d:o.guard=none)(s x:Operand)(A:o.op=.call {callee:=.builtin .append,args:=#[s,x],argTypes:=#[t,t]})(v:Value)(n:Nat)(xs:LV)(hs:a.eval s=v)(g:W.ownsRow B e size v n xs)
 (X:Value)(m:Nat)(u:LV)(H:a.eval x=X)(G:Ce W X m size u)(i:n+m<=1000000)(f:B<=W.heap.size)
 (h:∀(k:Option Addr) (c:Nat) w',w'.ownsRow B e size (.slice k (n+m) c) (n+m) (xs++u)->W.grownBy w' v.ownBlock->wpList Try.prog ops Q rest (a.put o.dst (.slice k (n+m) c)) w'):wpList Try.prog ops Q (o::rest) a W:=
 yG d fun K D=>by
  have C:=KF (ops:=ops) (E:=True) (K:=K) (Q:=Q) F hi r y p w l q B d s x A v n xs hs g X m u H G i f (fun k c w' h1 h2=>D _ _ (h k c w' h1 h2))
  rwa [yw (by simp[Region.wanted,d])] at C
theorem FY:∀(css:List LV) (sz:Nat),(∀cs∈css,cs.length=sz)->css.flatten.length=css.length*sz∧∀i (h:i < css.length) j,j < sz->css.flatten[i*sz+j]?=css[i][j]?
 |[],sz,_=>⟨by simp,fun i h=>by simp at h⟩
 |c::r,sz,h=>by
  obtain ⟨h1,h2⟩:=FY r sz (fun cs hc=>h cs (xF _ hc))
  have hc:=h c List.mem_cons_self
  refine ⟨by rw[xY,yq,h1,hc,yI,qq];omega,fun i hi j a=>?_⟩
  cases i with
  |zero=>rw[xY,Nat.zero_mul,yB,zC (by omega)];rfl
  |succ i=>
   rw[xY,yL (by rw[hc,qq];omega),hc,show (i+1)*sz+j - sz=i*sz+j by rw[qq];omega]
   exact h2 i (by simpa using hi) j a
theorem Sa{α:Type}{N:NP}{w:World}{sz:Nat}{Q:LV->α->Prop}{h:Ai}{l:List α}(G:Av N w sz Q h l)(hN:∀b,N b->b < w.heap.size)(q:∀cs d,Q cs d->∀v∈cs,v.oneCell'=true):
  ∃css:List LV,css.length=l.length∧(∀i (hi:i < css.length) (f:i < l.length),css[i].length=sz∧Q css[i] l[i])∧(∀cs∈css,cs.length=sz)∧Ce w h.v h.n sz css.flatten:=by
 obtain ⟨h1,h2,h3⟩:=G
 have r:∀i,∃cs:LV,∀(hi:i < l.length),cs.length=sz∧Q cs l[i]∧∃b o,h.a=some (aV b o)∧N b∧w.rangeAt b (o+i*sz) cs:=fun i=>by
  by_cases hi:i < l.length
  ·obtain ⟨b,o,cs,g1,I,J,D,K⟩:=h3 i hi
   exact ⟨cs,fun _=>⟨J,K,b,o,g1,I,D⟩⟩
  ·exact ⟨[],fun h=>absurd h hi⟩
 obtain ⟨F,g⟩:=Classical.axiomOfChoice r
 have hl:((List.range l.length).map F).length=l.length:=by simp
 have y:∀i (hi:i < ((List.range l.length).map F).length),((List.range l.length).map F)[i]=F i:=fun i hi=>by simp
 have m:∀cs∈(List.range l.length).map F,cs.length=sz:=fun cs hc=>by
  obtain ⟨i,hi,rfl⟩:=zy.1 hc
  exact (g i (z6.1 hi)).1
 obtain ⟨B,C⟩:=FY _ sz m
 refine ⟨(List.range l.length).map F,hl,fun i hi f=>by rw[y i hi];exact ⟨(g i f).1,(g i f).2.1⟩,m,⟨by rw[B,hl,h1],fun u t=>?_,h.a,h.c,rfl,?_⟩⟩
 ·obtain ⟨cs,hc,t⟩:=List.mem_flatten.1 t
  obtain ⟨i,hi,rfl⟩:=zy.1 hc
  exact q _ _ (g i (z6.1 hi)).2.1 u t
 ·by_cases h0:h.n=0
  ·exact .inl h0
  ·obtain ⟨_,_,b,o,x,hb,_⟩:=g 0 (by omega)
   refine .inr ⟨b,o,x,hN b hb,fun j u A=>?_⟩
   have p:=(yA.1 A).1
   rw[B,hl] at p
   have e:0 < sz:=by
    rcases Nat.eq_zero_or_pos sz with h|h
    ·subst h;omega
    ·exact h
   have hi:j / sz < l.length:=(Nat.div_lt_iff_lt_mul e).2 p
   have E:j % sz < sz:=Nat.mod_lt _ e
   have H:j / sz*sz+j % sz=j:=by rw[Nat.mul_comm];exact Nat.div_add_mod j sz
   have z:=C (j / sz) (by rw[hl];exact hi) (j % sz) E
   rw[H,A,y] at z
   obtain ⟨_,_,b',L,k,_,s⟩:=g (j / sz) hi
   rw[x] at k
   cases k
   have:=s (j % sz) u z.symm
   rw[show o+j / sz*sz+j % sz=o+j by omega] at this
   exact this
def FZ{α:Type}(w:World)(t sz:Nat)(Q:LV->α->Prop)(l:List α)(e:Ending)(w':World):Prop:=
 ∃h:Ai,e=.returned h.v∧h.n=l.length∧Below w.heap.size w w'∧∀i (hi:i < l.length),∃g cs,h.a=some ⟨g,0,none⟩∧w.heap.size<=g∧Ty w' g t∧cs.length=sz∧w'.rangeAt g (i*sz) cs∧Q cs l[i]
theorem Sb{α:Type}{w w1 w':World}{t sz:Nat}{Q:LV->α->Prop}{l:List α}{css:List LV}(hl:css.length=l.length)(F:∀i (hi:i < css.length) (E:i < l.length),css[i].length=sz∧Q css[i] l[i])(o:∀cs∈css,cs.length=sz)
 {a:Option Addr}{n c:Nat}(z:n=l.length)(d:w'.ownsRow w.heap.size t sz (.slice a (0+n) c) (0+n) ([]++css.flatten))(hb:Below w.heap.size w w1)(h:w1.grownBy w' (some w.heap.size))(G:w.heap.size<=w1.heap.size):FZ w t sz Q l (.returned (.slice a (0+n) c)) w':=by
 rw[yB,zk] at d
 refine ⟨⟨a,n,c⟩,by rw[yB];rfl,z,hb.trans ⟨h.os,h.tape,h.output,h.size,fun b D=>h.block b (by omega) (fun e=>by cases e;omega)⟩,fun i hi=>?_⟩
 obtain ⟨H,y⟩:=FY css sz o
 have k:i < css.length:=by omega
 obtain ⟨s,A⟩:=F i k hi
 rcases d.2 with ⟨_,h0⟩|⟨g,cap,B,v,p,r,_,_,_,C⟩
 ·omega
 ·simp only[xf,xW] at v
  obtain ⟨rfl,rfl⟩:=v
  refine ⟨g,css[i],rfl,p,⟨_,r⟩,s,fun j u x=>?_,A⟩
  have f:=(yA.1 x).1
  rw[s] at f
  have m:=(y i k j f).trans x
  rw[<-C] at m
  have q:=(yA.1 m).1
  rw[yP] at q
  rw[zJ,yw (by omega)] at m
  simp only[World.cell?,r]
  simpa using m
section
variable{N:NP}{w:World}
theorem Dk(r:Rf):∀v∈An r,v.oneCell'=true:=by intro v a;simp[An] at a;rcases a with rfl|rfl<;>rfl
theorem AL{v:Value}{l:LV}(h:v.oneCell'=true)(hl:∀u∈l,u.oneCell'=true):∀u∈v::l,u.oneCell'=true:=fun u a=>(yK.1 a).elim (fun e=>e▸h) (hl u)
theorem Ax{l m:LV}(h:∀u∈l,u.oneCell'=true)(hl:∀u∈m,u.oneCell'=true):∀u∈l++m,u.oneCell'=true:=fun u a=>(yi.1 a).elim (h u) (hl u)
theorem Ao{e:Ex}{c:LV}(h:AS N w e c):∀v∈c,v.oneCell'=true:=by
 obtain ⟨a,cap,rfl,_⟩:=h.cells
 intro v b
 simp at b
 rcases b with rfl|rfl|rfl|rfl|rfl|rfl<;>rfl
theorem R9(cs:LV)(d:CF)(h:GB N w cs d):∀v∈cs,v.oneCell'=true:=by
 obtain ⟨_,c,rfl,g⟩:=h;exact AL rfl (Ao g)
theorem OB(cs:LV)(d:Br)(h:DZ N w cs d):∀v∈cs,v.oneCell'=true:=by
 obtain ⟨_,c,rfl,g⟩:=h;exact AL rfl (Ao g)
theorem K6(cs:LV)(d:At)(h:CT N w cs d):∀v∈cs,v.oneCell'=true:=by
 obtain ⟨_,_,c0,c1,c2,l,c4,m,j,k,rfl,b,g1,f,g,a,i,c,e⟩:=h
 exact AL rfl (Ax (Dk _) (Ax (Ao b) (Ax (Ao g1) (Ax (Ao f) (Ax (Ao g) (Ax (Ao a) (Ax (Ao i) (Ax (Ao c) (Ao e)))))))))
theorem OC(cs:LV)(d:Bd)(h:E7 N w cs d):∀v∈cs,v.oneCell'=true:=by
 obtain ⟨_,_,_,c,rfl,g⟩:=h;exact AL rfl (Ax (Dk _) (AL rfl (Ax (Ao g) (Dk _))))
theorem Ts(cs:LV)(d:Bv)(h:E0 N w cs d):∀v∈cs,v.oneCell'=true:=by
 obtain ⟨_,c,rfl,g⟩:=h;exact Ax (Dk _) (Ao g)
theorem K8(cs:LV)(d:AG)(h:CU N w cs d):∀v∈cs,v.oneCell'=true:=by
 obtain ⟨_,_,_,c0,c1,c2,f,c4,rfl,e,g1,a,b,c⟩:=h
 exact AL rfl (AL rfl (Ax (Dk _) (Ax (Dk _) (AL rfl (Ax (Ao e) (Ax (Ao g1) (Ax (Ao a) (Ax (Ao b) (Ao c)))))))))
theorem OD(cs:LV)(d:BR)(h:E8 N w cs d):∀v∈cs,v.oneCell'=true:=by
 obtain ⟨_,_,_,c,rfl,g⟩:=h;exact AL rfl (Ax (Dk _) (Ax (Dk _) (Ao g)))
end
theorem On{T e:Nat}(f:Try.prog.underlying T=some (.slice e))(w:World)(a:Option Addr)(n c b d:Nat):(binOp .eql T (.slice a n c) (.slice none b d)).run Try.prog w=.ok (.bool a.isNone) w:=Lib.run_eql_slice_nil w _ _ a n c b d f
def GC(fn:Nat):Prop:=∀(w:World) (n c:Nat),Calls Try.prog fn #[.slice none n c] w fun e w'=>e=.returned (.slice none 0 0)∧w'=w
def GD(fn T sz:Nat):Prop:=∀(w:World) (a:Addr) (n c:Nat) (xs:LV) (b:TypeInfo) (z:Value),Try.prog.info? T=some b->b.zero=some z->b.size=sz->z.cells.size=sz->b.bytes<=10000->Ce (w.alloc (.cells #[] T)) (.slice (some a) n c) n sz xs->(w.alloc (.cells #[] T)).ownsRow w.heap.size T sz (.slice (some ⟨w.heap.size,0,none⟩) 0 0) 0 []->0+n<=1000000->w.heap.size<=(w.alloc (.cells #[] T)).heap.size->
  Calls Try.prog fn #[.slice (some a) n c] w fun e w'=>∃d c2,e=.returned (.slice d (0+n) c2)∧w'.ownsRow w.heap.size T sz (.slice d (0+n) c2) (0+n) ([]++xs)∧(w.alloc (.cells #[] T)).grownBy w' (some w.heap.size)
theorem DT{fn T sz:Nat}(f:((Try.prog.info? T).bind fun i=>i.zero.map fun z=>(i.size,z.cells.size,decide (i.bytes<=10000)))=some (sz,sz,true))(A:GC fn)(r:GD fn T sz){α:Type}{N:NP}{w:World}{Q:LV->α->Prop}{h:Ai}{l:List α}(t:Av N w sz Q h l)(hN:∀b,N b->b < w.heap.size)(q:∀cs d,Q cs d->∀v∈cs,v.oneCell'=true)(I:l.length<=100000):
  Calls Try.prog fn #[h.v] w (FZ w T sz Q l):=by
 obtain ⟨css,hl,F,s,k⟩:=Sa t hN q
 have m:=t.1
 obtain ⟨a,n,c⟩:=h
 unfold Ai.v at k ⊢
 simp only at m k
 cases a with
 |none=>
  have x:l.length=0:=by
   rcases Nat.eq_zero_or_pos l.length with h|h
   ·exact h
   ·obtain ⟨_,_,_,h1,_⟩:=t.2.2 0 h;cases h1
  refine (A w n c).mono ?_
  rintro e w' ⟨rfl,rfl⟩
  exact ⟨⟨none,0,0⟩,rfl,x.symm,yg _ _,fun i hi=>by omega⟩
 |some a=>
  cases hi:Try.prog.info? T with
  |none=>simp[hi] at f
  |some i0=>
  cases y:i0.zero with
  |none=>simp[hi,y] at f
  |some z=>
  simp only[hi,y,xJ,xT,yY,zw,yW] at f
  have g:Below w.heap.size w (w.alloc (.cells #[] T)):=(yg _ _).alloc (yf _) _
  refine (r w a n c css.flatten i0 z hi y f.1 f.2.1 f.2.2 ?_ ⟨by simp,.inr ⟨w.heap.size,0,#[],rfl,yf _,World.alloc_heap_new _ _,yf _,yC _,by simp,by simp⟩⟩ (by omega) g.size).mono ?_
  ·obtain ⟨r1,r2,D,H,C,B⟩:=k
   refine ⟨r1,r2,D,H,C,B.imp id ?_⟩
   rintro ⟨b,o,e,hb,hc⟩
   exact ⟨b,o,e,yr hb g.size,fun j u E=>(g.cell (p:=(aV b (o+j))) hb).trans (hc j u E)⟩
  ·rintro e w' ⟨J,c2,rfl,h5,G⟩
   exact Sb hl F s m h5 g G g.size
theorem Dl:GC 71∧GC 72∧GC 73∧GC 74∧GC 75∧GC 76∧GC 77∧GC 78∧GC 80:=by
 refine ⟨?_,?_,?_,?_,?_,?_,?_,?_,?_⟩
 all_goals
  intro w n c
  have i:=On qE
  have d:=On qF
  have j:=On qG
  have e:=On qI
  have f:=On qJ
  have b:=On qK
  have a:=On qL
  have g:=On qW
  have h:=On qC
  first|go_enter Try.func71,Try.ntmps71|go_enter Try.func72,Try.ntmps72|go_enter Try.func73,Try.ntmps73|go_enter Try.func74,Try.ntmps74|go_enter Try.func75,Try.ntmps75|go_enter Try.func76,Try.ntmps76|go_enter Try.func77,Try.ntmps77|go_enter Try.func78,Try.ntmps78|go_enter Try.func80,Try.ntmps80
  go_wp2
  go_ret
  exact ⟨rfl,rfl⟩
theorem Dm:GD 71 55 7∧GD 72 57 7∧GD 73 51 51∧GD 74 59 12∧GD 75 64 23∧GD 76 68 37∧GD 77 70 11∧GD 78 66 8∧GD 80 26 6:=by
 refine ⟨?_,?_,?_,?_,?_,?_,?_,?_,?_⟩
 all_goals
  intro w a n c xs F z hi k q m i f d e g
  have A:=yb hi;have y:=yb k;have x:=yb q;have s:=yb m;have v:=yb i
  have l:=yb f;have p:=yb d;have h:=yb e;have t:=yb g
  clear hi k q m i f d e g
  have E:=On qE
  have J:=On qF
  have G:=On qG
  have C:=On qI
  have D:=On qJ
  have I:=On qK
  have H:=On qL
  have M:=On qW
  have K:=On qC
  first|go_enter Try.func71,Try.ntmps71|go_enter Try.func72,Try.ntmps72|go_enter Try.func73,Try.ntmps73|go_enter Try.func74,Try.ntmps74|go_enter Try.func75,Try.ntmps75|go_enter Try.func76,Try.ntmps76|go_enter Try.func77,Try.ntmps77|go_enter Try.func78,Try.ntmps78|go_enter Try.func80,Try.ntmps80
  go_wp2_with (first|(at_builtin;refine Js (by first|exact qE|exact qF|exact qG|exact qI|exact qJ|exact qK|exact qL|exact qW|exact qC) A.o y.o x.o rfl s.o (by decide) v.o w.heap.size rfl _ _ rfl (.slice (some (aV w.heap.size 0)) 0 0) 0 [] rfl p.o (.slice (some a) n c) n xs rfl l.o h.o t.o ?_;intro B c2 L b j;have u:=yb b;have r:=yb j;clear b j))
  go_ret
  exact ⟨B,c2,by simp,u.o,r.o⟩
theorem Sc{α:Type}{N:NP}{w:World}{Q:LV->α->Prop}{h:Ai}{l:List α}(e:Av N w 7 Q h l)(hN:∀b,N b->b < w.heap.size)(a:∀cs d,Q cs d->∀v∈cs,v.oneCell'=true)(c:l.length<=100000):Calls Try.prog 71 #[h.v] w (FZ w 55 7 Q l):=DT (by kernel_rfl) Dl.1 Dm.1 e hN a c
theorem Qd{α:Type}{N:NP}{w:World}{Q:LV->α->Prop}{h:Ai}{l:List α}(e:Av N w 7 Q h l)(hN:∀b,N b->b < w.heap.size)(a:∀cs d,Q cs d->∀v∈cs,v.oneCell'=true)(c:l.length<=100000):Calls Try.prog 72 #[h.v] w (FZ w 57 7 Q l):=DT (by kernel_rfl) Dl.2.1 Dm.2.1 e hN a c
theorem OE{α:Type}{N:NP}{w:World}{Q:LV->α->Prop}{h:Ai}{l:List α}(e:Av N w 51 Q h l)(hN:∀b,N b->b < w.heap.size)(a:∀cs d,Q cs d->∀v∈cs,v.oneCell'=true)(c:l.length<=100000):Calls Try.prog 73 #[h.v] w (FZ w 51 51 Q l):=DT (by kernel_rfl) Dl.2.2.1 Dm.2.2.1 e hN a c
theorem Qe{α:Type}{N:NP}{w:World}{Q:LV->α->Prop}{h:Ai}{l:List α}(e:Av N w 12 Q h l)(hN:∀b,N b->b < w.heap.size)(a:∀cs d,Q cs d->∀v∈cs,v.oneCell'=true)(c:l.length<=100000):Calls Try.prog 74 #[h.v] w (FZ w 59 12 Q l):=DT (by kernel_rfl) Dl.2.2.2.1 Dm.2.2.2.1 e hN a c
theorem Sd{α:Type}{N:NP}{w:World}{Q:LV->α->Prop}{h:Ai}{l:List α}(e:Av N w 23 Q h l)(hN:∀b,N b->b < w.heap.size)(a:∀cs d,Q cs d->∀v∈cs,v.oneCell'=true)(c:l.length<=100000):Calls Try.prog 75 #[h.v] w (FZ w 64 23 Q l):=DT (by kernel_rfl) Dl.2.2.2.2.1 Dm.2.2.2.2.1 e hN a c
theorem OF{α:Type}{N:NP}{w:World}{Q:LV->α->Prop}{h:Ai}{l:List α}(e:Av N w 37 Q h l)(hN:∀b,N b->b < w.heap.size)(a:∀cs d,Q cs d->∀v∈cs,v.oneCell'=true)(c:l.length<=100000):Calls Try.prog 76 #[h.v] w (FZ w 68 37 Q l):=DT (by kernel_rfl) Dl.2.2.2.2.2.1 Dm.2.2.2.2.2.1 e hN a c
theorem Qf{α:Type}{N:NP}{w:World}{Q:LV->α->Prop}{h:Ai}{l:List α}(e:Av N w 11 Q h l)(hN:∀b,N b->b < w.heap.size)(a:∀cs d,Q cs d->∀v∈cs,v.oneCell'=true)(c:l.length<=100000):Calls Try.prog 77 #[h.v] w (FZ w 70 11 Q l):=DT (by kernel_rfl) Dl.2.2.2.2.2.2.1 Dm.2.2.2.2.2.2.1 e hN a c
theorem Qg{α:Type}{N:NP}{w:World}{Q:LV->α->Prop}{h:Ai}{l:List α}(e:Av N w 8 Q h l)(hN:∀b,N b->b < w.heap.size)(a:∀cs d,Q cs d->∀v∈cs,v.oneCell'=true)(c:l.length<=100000):Calls Try.prog 78 #[h.v] w (FZ w 66 8 Q l):=DT (by kernel_rfl) Dl.2.2.2.2.2.2.2.1 Dm.2.2.2.2.2.2.2.1 e hN a c
theorem Qh{α:Type}{N:NP}{w:World}{Q:LV->α->Prop}{h:Ai}{l:List α}(e:Av N w 6 Q h l)(hN:∀b,N b->b < w.heap.size)(a:∀cs d,Q cs d->∀v∈cs,v.oneCell'=true)(c:l.length<=100000):Calls Try.prog 80 #[h.v] w (FZ w 26 6 Q l):=DT (by kernel_rfl) Dl.2.2.2.2.2.2.2.2 Dm.2.2.2.2.2.2.2.2 e hN a c
mutual
def J1(w:World)(B:NP):Ex->LV->Prop
 |.mk op n u rn ri args,cs=>∃a cap,cs=[.int .i64 op,.int .i64 n,.int .i64 u,.string rn,.int .i64 ri,.slice a args.length cap]∧args.length<=140737488355328∧rn.size<=maxLen∧Eh w B a 0 args
def Eh(w:World)(B:NP)(a:Option Addr):Nat->List Ex->Prop
 |_,[]=>True
 |i,e::r=>(∃g cs,a=some ⟨g,0,none⟩∧B g∧Ty w g 26∧w.rangeAt g (i*6) cs∧J1 w B e cs)∧Eh w B a (i+1) r
end
theorem Ra{w:World}{B:NP}{a:Option Addr}:∀ {l:List Ex} {k:Nat},(∀i (h:i < l.length),∃g cs,a=some ⟨g,0,none⟩∧B g∧Ty w g 26∧w.rangeAt g ((k+i)*6) cs∧J1 w B l[i] cs)->Eh w B a k l
 |[],_,_=>by rw[Eh];trivial
 |e::r,k,h=>by
  rw[Eh]
  refine ⟨h 0 (by simp),Ra fun i hi=>?_⟩
  obtain ⟨g,cs,h1,h2,h3,h4,h5⟩:=h (i+1) (by simpa using hi)
  exact ⟨g,cs,h1,h2,h3,by rw[show k+1+i=k+(i+1) by omega];exact h4,by simpa using h5⟩
theorem Ty.same{w w':World}{b t:Nat}(h:Ty w b t)(hb:w'.heap[b]?=w.heap[b]?):Ty w' b t:=by
 obtain ⟨c,e⟩:=h
 exact ⟨c,hb.trans e⟩
mutual
theorem J1.same{w w':World}{B c:NP}(d:∀b,B b->b < w.heap.size->c b)(hb:∀b,B b->b < w.heap.size->w'.heap[b]?=w.heap[b]?):∀ {e:Ex} {cs:LV},J1 w B e cs->J1 w' c e cs
 |.mk _ _ _ _ _ args,_,h=>by
  rw[J1] at h ⊢
  obtain ⟨a,cap,h1,h2,h3,h4⟩:=h
  exact ⟨a,cap,h1,h2,h3,Eh.same d hb h4⟩
theorem Eh.same{w w':World}{B d:NP}(c:∀b,B b->b < w.heap.size->d b){a:Option Addr}(hb:∀b,B b->b < w.heap.size->w'.heap[b]?=w.heap[b]?):∀ {l:List Ex} {k:Nat},Eh w B a k l->Eh w' d a k l
 |[],_,h=>by rw[Eh];trivial
 |e::r,k,h=>by
  rw[Eh] at h ⊢
  obtain ⟨⟨g,cs,h1,h2,h3,h4,h5⟩,h6⟩:=h
  exact ⟨⟨g,cs,h1,c g h2 h3.lt,h3.same (hb g h2 h3.lt),A2 h4 (hb g h2 h3.lt),J1.same c hb h5⟩,Eh.same c hb h6⟩
end
theorem J1.mk'{w:World}{B:NP}{e:Ex}{a:Option Addr}{cap:Nat}(h1:e.args.length<=140737488355328)(h2:e.rn.size<=maxLen)(h3:Eh w B a 0 e.args):
  J1 w B e [.int .i64 e.op,.int .i64 e.n,.int .i64 e.u,.string e.rn,.int .i64 e.ri,.slice a e.args.length cap]:=by
 cases e
 rw[J1]
 exact ⟨a,cap,rfl,h1,h2,h3⟩
def Xp(W:World)(b o:Nat)(args:List Ex)(w':World):Prop:=
 W.grownBy w' (some b)∧(∀p,p≠o+5->w'.cell? ⟨b,p,none⟩=W.cell? ⟨b,p,none⟩)∧(∀t,Ty W b t->Ty w' b t)∧∃a cap,w'.cell? ⟨b,o+5,none⟩=some (.slice a args.length cap)∧Eh w' (fun b=>W.heap.size<=b) a 0 args
mutual
def Bg:Ex->Prop
 |.mk _ _ _ _ _ args=>args.length<=100000∧E1 args
def E1:List Ex->Prop
 |[]=>True
 |e::r=>Bg e∧E1 r
end
theorem K9:∀ {l:List Ex},E1 l->∀i (h:i < l.length),Bg l[i]
 |[],_,i,h=>by simp at h
 |e::r,hl,0,_=>by rw[E1] at hl;exact hl.1
 |e::r,hl,i+1,h=>by rw[E1] at hl;exact K9 hl.2 i (by simpa using h)
theorem Jt{W w':World}{b c p:Nat}(h:W.grownBy w' (some b))(hc:c < W.heap.size)(a:c≠b):w'.cell? ⟨c,p,none⟩=W.cell? ⟨c,p,none⟩:=by
 unfold World.cell?
 rw[h.block c hc (fun e=>a (by cases e;rfl))]
theorem Ty.frozen{w:World}{b t p:Nat}(h:Ty w b t):w.frozen? ⟨b,p,none⟩=false:=by
 obtain ⟨c,e⟩:=h
 simp[World.frozen?,e]
theorem Ak{W:World}{b p:Nat}{u:Value}(v:Value)(hc:W.cell? ⟨b,p,none⟩=some u):
  W.grownBy (W.setCell ⟨b,p,none⟩ v) (some b)∧(∀q,q≠p->(W.setCell ⟨b,p,none⟩ v).cell? ⟨b,q,none⟩=W.cell? ⟨b,q,none⟩)∧(∀t,Ty W b t->Ty (W.setCell ⟨b,p,none⟩ v) b t)∧(W.setCell ⟨b,p,none⟩ v).cell? ⟨b,p,none⟩=some v:=by
 refine ⟨⟨rfl,rfl,rfl,by simp,fun i _ a=>yT W (aV b p) i v (fun e=>a (by rw[e]))⟩,fun q d=>World.cell?_setCell_other _ _ _ _ (fun e=>d (by cases e;rfl)),?_,World.cell?_setCell_same _ _ _ hc⟩
 rintro t ⟨c,e⟩
 exact ⟨_,z7 W b p c t v e⟩
structure UW (W:World) (N:Nat->Prop) (b o:Nat) (a:Option Addr) (c:Nat) (args:List Ex) (i:Nat) (wr:World):Prop where
 grown:W.grownBy wr (some b)
 cells:∀p,p≠o+5->wr.cell? ⟨b,p,none⟩=W.cell? ⟨b,p,none⟩
 hdr:wr.cell? ⟨b,o+5,none⟩=some (.slice a args.length c)
 ty:∀t,Ty W b t->Ty wr b t
 rows:∀j (h:j < args.length),∃g cs,a=some ⟨g,0,none⟩∧W.heap.size<=g∧Ty wr g 26∧wr.rangeAt g (j*6) cs∧((j < i∧J1 wr (fun b=>g+1<=b) args[j] cs)∨(i<=j∧AS N wr args[j] cs))
theorem UW.drew{W:World}{N:NP}{b o:Nat}{a:Option Addr}{c:Nat}{args:List Ex}{i:Nat}{wr:World}(h:UW W N b o a c args i wr):UW W N b o a c args i wr.drew:=by
 refine ⟨⟨h.grown.os,h.grown.tape,h.grown.output,h.grown.size,h.grown.block⟩,h.cells,h.hdr,h.ty,fun j d=>?_⟩
 obtain ⟨g,cs,h1,h2,h3,h4,h5⟩:=h.rows j d
 refine ⟨g,cs,h1,h2,h3,h4,h5.imp (fun h=>⟨h.1,J1.same (w:=wr) (w':=wr.drew) (fun _ h _=>h) (fun _ _ _=>rfl) h.2⟩) (fun h=>⟨h.1,AS.same (w:=wr) (w':=wr.drew) (fun _ h=>h) (fun _ _=>rfl) h.2⟩)⟩
theorem UW.next{W:World}{N:NP}{b o:Nat}{a:Option Addr}{c:Nat}{args:List Ex}{i:Nat}{wr w4:World}(h:UW W N b o a c args i wr)(hi:i < args.length)(hb:b < W.heap.size)(hN:∀c,N c->c < W.heap.size∧c≠b){g:Nat}(I:a=some ⟨g,0,none⟩)
 (z:Xp wr g (i*6) args[i].args w4):UW W N b o a c args (i+1) w4:=by
 obtain ⟨f,m,G,a',A,X,U⟩:=z
 obtain ⟨L,cs,h1,h2,h3,h4,h5⟩:=h.rows i hi
 obtain rfl:g=L:=by rw[I] at h1;cases h1;rfl
 have O:=h.grown.size
 have s:b≠g:=by omega
 have K:=h3.lt
 have kb:w4.heap[b]?=wr.heap[b]?:=f.block b (by omega) (fun e=>s (by cases e;rfl))
 have D:∀p,w4.cell? (aV b p)=wr.cell? (aV b p):=fun p=>by unfold World.cell?;rw[kb]
 refine ⟨⟨f.os.trans h.grown.os,f.tape.trans h.grown.tape,f.output.trans h.grown.output,yl O f.size,fun q T r=>(f.block q (by omega) (fun e=>by cases e;omega)).trans (h.grown.block q T r)⟩,fun p V=>(D p).trans (h.cells p V),(D _).trans h.hdr,fun t M=>(h.ty t M).same kb,fun j S=>?_⟩
 obtain ⟨g1,R,n,F,B,C,d⟩:=h.rows j S
 obtain rfl:g=g1:=by rw[I] at n;cases n;rfl
 by_cases y:j=i
 ·subst y
  rcases d with ⟨d,_⟩|⟨_,d⟩
  ·omega
  obtain ⟨Z,H,rfl,e1,e2,Y⟩:=d.cells
  obtain ⟨r0,r1,r2,P,J,r5⟩:=BJ C
  refine ⟨g,_,n,F,G _ B,A6 ((m _ (by omega)).trans r0) (A6 ((m _ (by omega)).trans r1) (A6 ((m _ (by omega)).trans r2) (A6 ((m _ (by omega)).trans P) (A6 ((m _ (by omega)).trans J) (Cn X))))),.inl ⟨by omega,J1.mk' e1 e2 (U.same (fun x l _=>by have:wr.heap.size<=x:=l;show g+1<=x;omega) (fun _ _ _=>rfl))⟩⟩
 ·refine ⟨g,R,n,F,G _ B,fun k v E=>?_,?_⟩
  ·have hl:k < 6:=by
    have h1:=(yA.1 E).1
    rcases d with ⟨_,d⟩|⟨_,d⟩
    ·cases Q:args[j] with
     |mk=>rw[Q,J1] at d;obtain ⟨_,_,rfl,_⟩:=d;simpa using h1
    ·rw[d.len] at h1;exact h1
   exact (m _ (by omega)).trans (C k v E)
  ·rcases d with ⟨d,w⟩|⟨d,w⟩
   ·exact .inl ⟨by omega,w.same (fun _ h _=>h) (fun x l u=>f.block x u (fun e=>by cases e;have:g+1<=g:=l;omega))⟩
   ·exact .inr ⟨by omega,w.same (fun _ h=>h) (fun x l=>f.block x (by have:=(hN x l).1;omega) (fun e=>by cases e;have:=(hN g l).1;omega))⟩
theorem Tt(N:NP)(Bx:Nat):∀(e:Ex) (b o t:Nat) (cs:LV) (W:World),AS N W e cs->W.rangeAt b o cs->Ty W b t->Bg e->(∀c,N c->c < W.heap.size∧c≠b)->Bx≠b->W.cell? ⟨Bx,0,none⟩=some (.func (.func 79) #[] #[.pointer (some ⟨Bx,0,none⟩)])->
  Calls Try.prog 79 #[.pointer (some ⟨b,o,none⟩),.pointer (some ⟨Bx,0,none⟩)] W fun x w'=>x=.returned (.tuple #[])∧Xp W b o e.args w':=by
 refine Ib fun op nn u rn ri args ih=>?_
 intro b o t cs W M O ty s hN T y
 rw[AS] at M
 obtain ⟨a,cap,rfl,hl,hr,F⟩:=M
 rw[Bg] at s
 obtain ⟨-, -, -, -, -,c5⟩:=BJ O
 have Q:Av N W 6 (fun c d=>AS N W d c) ⟨a,args.length,cap⟩ args:=⟨rfl,hl,fun i hi=>by
  obtain ⟨b',o',c,g1,g2,g3,g4⟩:=Em F i hi
  exact ⟨b',o',c,g1,g2,g4.len,by rw[yB] at g3;exact g3,g4⟩⟩
 have A:=Qh Q (fun c hc=>(hN c hc).1) (fun c d h=>Ao h) s.1
 have a6:=yb A
 have IH:=yb ih
 have HN:=yb hN
 have a7:=yb ty
 have a8:=yb s.2
 have ae:=yb s.1
 have ag:=yb (zN W _ y)
 have r:=yb (zN W _ c5)
 have Z:=yb T
 have z:=yb y
 show Calls _ _ _ _ (fun x w'=>x=.returned (.tuple #[])∧Xp W b o args w')
 clear Q A ih hN ty s O F y T hl hr
 go_enter Try.func79,Try.ntmps79
 go_wp2_with (first|(go_at_call 80;refine a6.o.mono ?_;rintro e w1 ⟨⟨l,n',f⟩,rfl,G,C,n⟩;rw[show Ai.v ⟨l,n',f⟩=Value.slice l n' f from rfl];simp only at G n;have d5:=(C.cell (p:=(aV b (o+5))) r.o).trans c5;have df:=(Ty.same a7.o (C.block b r.o)).frozen (p:=o+5);have m:=yb C;have S:=yb G;have w:=yb n;clear C G n))
 obtain rfl:=S.o.symm
 have hI:UW W N b o l f args 0 (w1.setCell (aV b (o+5)) (.slice l args.length f)):=by
  obtain ⟨s1,s2,s3,s4⟩:=Ak (.slice l args.length f) d5
  have af:=m.o.size
  refine ⟨⟨s1.os.trans m.o.os,s1.tape.trans m.o.tape,s1.output.trans m.o.output,yl af s1.size,fun q hq ac=>(s1.block q (by omega) ac).trans (m.o.block q hq)⟩,fun p hp=>(s2 p hp).trans (m.o.cell (p:=(aV b p)) r.o),s4,fun t ht=>s3 t (ht.same (m.o.block b r.o)),fun j hj=>?_⟩
  obtain ⟨g,cs,q1,K,I,L,J,q6⟩:=w.o j hj
  have a0:g≠b:=by have:=r.o;omega
  have hg:(w1.setCell (aV b (o+5)) (.slice l args.length f)).heap[g]?=w1.heap[g]?:=s1.block g I.lt (fun e=>a0 (by cases e;rfl))
  refine ⟨g,cs,q1,K,I.same hg,A2 J hg,.inr ⟨yC _,q6.same (fun _ h=>h) (fun x hx=>?_)⟩⟩
  have Y:=HN.o x hx
  exact (s1.block x (by omega) (fun e=>Y.2 (by cases e;rfl))).trans (m.o.block x Y.1)
 have U:=yb hI
 have ah:args.length<=100000:=ae.o
 clear hI d5 df c5
 generalize w1.setCell (aV b (o+5)) (.slice l args.length f)=w2 at*
 have e5:=U.o.hdr
 clear m w S
 go_wp2
 clear e5
 go_loopw [17] (fun iv wr=>∃i:Nat,i<=args.length∧iv=iV i∧Hid (UW W N b o l f args i wr)) (fun iv _=>args.length - (intOf iv).toNat)
 case atStart=>exact ⟨0,yC _,rfl,U⟩
 case round=>
  obtain ⟨i,hi,rfl,k⟩:=hrel
  by_cases B:i < args.length
  ·obtain ⟨g,cs,rfl,K,I,L,J⟩:=k.o.drew.rows i B
   have M:AS N wr.drew args[i] cs:=J.elim (fun h=>by omega) (fun h=>h.2)
   have hz:=k.o.grown.size
   have X:=r.o
   have H:=ag.o
   have D:wr.drew.cell? (aV Bx 0)=some (.func (.func 79) #[] #[pV Bx 0]):=(Jt k.o.grown H Z.o).trans z.o
   have E:=IH.o args[i] (yz B) g (i*6) 26 cs wr.drew M L I (K9 a8.o i B) (fun c hc=>by have:=HN.o c hc;show c < wr.heap.size∧_;omega) (by omega) D
   have R:=yb E
   have aa:(i:Int) < (args.length:Int):=by omega
   have V:=fun w4=>k.o.drew.next (w4:=w4) B X HN.o rfl
   have a1:=yb V
   have e5:=k.o.hdr
   have eB:wr.cell? (aV Bx 0)=some (.func (.func 79) #[] #[pV Bx 0]):=D
   have a2:Hid (wr.drew.cell? (aV Bx 0)=some (.func (.func 79) #[] #[pV Bx 0])∧wr.drew.cell? (aV b (o+5))=some (.slice (some (aV g 0)) args.length f)):=yb ⟨D,e5⟩
   have HQ:Hid (∀w4,UW W N b o (some (aV g 0)) f args (i+1) w4->w4.cell? (aV Bx 0)=some (.func (.func 79) #[] #[pV Bx 0])∧w4.cell? (aV b (o+5))=some (.slice (some (aV g 0)) args.length f)):=yb (fun w4 h=>⟨(Jt h.grown H Z.o).trans z.o,h.hdr⟩)
   clear M K I L J hz X H D E V
   go_wp2_with fail
   go_region_held3 (fun w'=>w'.cell? (aV Bx 0)=some (.func (.func 79) #[] #[pV Bx 0])∧w'.cell? (aV b (o+5))=some (.slice (some (aV g 0)) args.length f)) (first|exact a2.o|exact ad.o)
    (first|(go_at_call 79;refine R.o.mono ?_;rintro e w4 ⟨rfl,A⟩;have P:=yb (a1.o w4 A);have ad:=yb (HQ.o w4 P.o);clear A))
   go_wp2
   exact ⟨⟨i+1,by omega,by push_cast;rfl,P⟩,by simp[intOf];omega⟩
  ·obtain rfl:i=args.length:=by omega
   have aa:decide ((args.length:Int) < (args.length:Int))=false:=by simp
   go_wp2
   go_end0
   refine ⟨rfl,k.o.grown,k.o.cells,k.o.ty,l,f,k.o.hdr,Ra fun j hj=>?_⟩
   obtain ⟨g,cs,q1,K,I,L,J⟩:=k.o.rows j hj
   rw[yB]
   exact ⟨g,cs,q1,K,I,L,J.elim (fun h=>h.2.same (fun x hx _=>by have:g+1<=x:=hx;show W.heap.size<=x;omega) (fun _ _ _=>rfl)) (fun h=>by omega)⟩
theorem Rb:∀(e:Ex) {N N':NP} {w:World} {e':Ex} {cs:LV},AS N w e cs->AS N' w e' cs->e=e':=by
 refine Ib fun op z u rn ri args ih=>?_
 intro N N' w e' cs h n
 cases e' with
 |mk op' nn' u' rn' ri' args'=>
  rw[AS] at h n
  obtain ⟨a,cap,rfl,_,_,r⟩:=h
  obtain ⟨A,k,p,_,_,g⟩:=n
  simp only[xC,Value.int.injEq,Value.string.injEq,xf,xW,and_true] at p
  obtain ⟨rfl,rfl,rfl,rfl,rfl,rfl,hl,rfl⟩:=p
  have:args=args':=by
   refine zn hl fun i hi f=>?_
   obtain ⟨b,o,c,g1,_,v,m⟩:=Em r i hi
   obtain ⟨b',y,x,l,_,s,q⟩:=Em g i f
   rw[g1] at l
   cases l
   have hc:c=x:=by
    refine zn (by rw[m.len,q.len]) fun j t d=>?_
    have h1:=v j _ (yk t)
    have h2:=s j _ (yk d)
    rw[h1] at h2
    exact yh h2
   subst hc
   exact ih _ (yz hi) m q
  rw[this]
mutual
theorem J1.exV{w:World}{M N:NP}(hM:∀b,M b->b < w.heap.size->N b):∀ {e:Ex} {cs:LV},J1 w M e cs->AS N w e cs
 |.mk _ _ _ _ _ args,_,h=>by
  rw[J1] at h
  rw[AS]
  obtain ⟨a,cap,h1,h2,h3,h4⟩:=h
  exact ⟨a,cap,h1,h2,h3,Eh.rowV hM h4⟩
theorem Eh.rowV{w:World}{M N:NP}{a:Option Addr}(hM:∀b,M b->b < w.heap.size->N b):∀ {l:List Ex} {k:Nat},Eh w M a k l->DK N w a k l
 |[],_,h=>by rw[DK];trivial
 |e::r,k,h=>by
  rw[Eh] at h
  rw[DK]
  obtain ⟨⟨g,cs,h1,h2,h3,h4,h5⟩,h6⟩:=h
  exact ⟨⟨g,0,cs,h1,hM g h2 h3.lt,by rw[yB];exact h4,J1.exV hM h5⟩,Eh.rowV hM h6⟩
end
mutual
def KW:Ex->Int->Int
 |.mk _ _ _ _ _ args,most=>Mk args most 1
def Mk:List Ex->Int->Int->Int
 |[],_,n=>n
 |e::r,most,n=>if n < most then Mk r most (n+KW e (most - n)) else n
end
mutual
theorem Jb:∀(e:Ex) (most:Int),1<=KW e most∧KW e most<=max 1 most
 |.mk _ _ _ _ _ args,most=>by rw[KW];exact NG args most 1
theorem NG:∀(l:List Ex) (most n:Int),n<=Mk l most n∧Mk l most n<=max n most
 |[],most,n=>by rw[Mk];omega
 |e::r,most,n=>by
  rw[Mk]
  split
  ·have h1:=Jb e (most - n)
   have h2:=NG r most (n+KW e (most - n))
   omega
  ·omega
end
mutual
theorem OG:∀(e:Ex) (most:Int),KW e most < most->(AJ e:Int)+1<=KW e most
 |.mk _ _ _ _ _ args,most,h=>by
  rw[KW] at h ⊢
  rw[AJ]
  have:=(Lq args most 1 (by omega) h).1
  omega
theorem Lq:∀(l:List Ex) (most n:Int),1<=n->Mk l most n < most->(Bq l:Int)+n<=Mk l most n∧n+l.length<=Mk l most n
 |[],most,n,_,h=>by rw[Mk,Bq];simp
 |e::r,most,n,hn,h=>by
  rw[Mk] at h ⊢
  split at h
  ·rename_i a
   rw[yw a]
   have h1:=Jb e (most - n)
   have h2:=NG r most (n+KW e (most - n))
   obtain ⟨h3,h4⟩:=Lq r most (n+KW e (most - n)) (by omega) h
   have h5:=OG e (most - n) (by omega)
   rw[Bq,yI]
   omega
  ·omega
end
mutual
theorem OH:∀(e:Ex) (most:Int),most<=5001->KW e most < most->Bg e
 |.mk _ _ _ _ _ args,most,h0,h=>by
  rw[KW] at h
  rw[Bg]
  have:=(Lq args most 1 (by omega) h).2
  exact ⟨by omega,OI args most 1 (by omega) h0 h⟩
theorem OI:∀(l:List Ex) (most n:Int),1<=n->most<=5001->Mk l most n < most->E1 l
 |[],most,n,_,_,h=>by rw[E1];trivial
 |e::r,most,n,hn,h0,h=>by
  rw[Mk] at h
  rw[E1]
  split at h
  ·rename_i a
   have h1:=Jb e (most - n)
   have h2:=NG r most (n+KW e (most - n))
   exact ⟨OH e (most - n) (by omega) (by omega),OI r most (n+KW e (most - n)) (by omega) h0 h⟩
  ·omega
end
theorem DC{α:Type}{l:List α}{i:Nat}(h:i < l.length):l.drop i=l[i]::l.drop (i+1):=List.drop_eq_getElem_cons h
theorem Tu:∀(e:Ex) {N:NP} {w:World} {cs:LV} {most:Int},AS N w e cs->(∀b,N b->b < w.heap.size)->1<=most->most<=5001->
  Calls Try.prog 23 #[.agg cs.toArray,.int .i64 most] w fun x w'=>x=.returned (.int .i64 (KW e most))∧Below w.heap.size w w':=by
 refine Ib fun op A u rn ri args ih=>?_
 intro N w cs most h hN X Y
 rw[AS] at h
 obtain ⟨a,cap,rfl,hl,hr,j⟩:=h
 have B:=yb j
 have H:=yb hN
 have IH:=yb ih
 have U:KW (.mk op A u rn ri args) most=Mk args most 1:=rfl
 rw[U]
 generalize P:args.length=m at hl ⊢
 have V:=yb P
 generalize T:Mk args most 1=S
 have F:Hid (Mk (args.drop 0) most 1=S):=yb T
 clear j hN ih U P T
 go_enter Try.func23,Try.ntmps23
 go_wp2
 have c:=yb ((yg w.heap.size w).alloc (yf _) (.cells #[iV op,iV A,iV u,.string rn,iV ri,.slice a m cap] 26))
 have E:Hid ((w.alloc (.cells #[iV op,iV A,iV u,.string rn,iV ri,.slice a m cap] 26)).cell? (aV w.heap.size 5)=some (.slice a m cap)):=yb (by
  have h:=World.alloc_heap_new w (.cells #[iV op,iV A,iV u,.string rn,iV ri,.slice a m cap] 26)
  simp only[World.cell?,h];rfl)
 obtain ⟨k,q⟩:∃k,k=w.alloc (.cells #[iV op,iV A,iV u,.string rn,iV ri,.slice a m cap] 26):=⟨_,rfl⟩
 rw[<-q] at c E ⊢
 have Z:Hid (k.heap.size=w.heap.size+1):=yb (by rw[q];simp)
 clear q
 have v:=yb (yg k.heap.size k)
 go_loopw [5,6] (fun nv O wr=>∃(i:Nat) (n:Int),nv=iV n∧O=iV i∧i<=m∧1<=n∧n<=max 1 most∧Hid (Mk (args.drop i) most n=S)∧Hid (Below k.heap.size k wr)) (fun _ O _=>m - (intOf O).toNat)
 case atStart=>exact ⟨0,1,rfl,rfl,yC _,by omega,by omega,F,v⟩
 case round=>
  clear F v
  obtain ⟨i,n,rfl,rfl,hi,a1,a2,I,t⟩:=hrel
  have W:wr.cell? (aV w.heap.size 5)=some (.slice a m cap):=(t.o.cell (p:=(aV w.heap.size 5)) (by rw[Z.o];exact xK _)).trans E.o
  by_cases J:i < m
  ·have g:i < args.length:=by rw[V.o];exact J
   have L:(i:Int) < (m:Int):=by omega
   by_cases D:n < most
   ·obtain ⟨b,o,cs,rfl,K,z,l⟩:=Em B.o i g
    have f:=c.o.trans (t.o.mono c.o.size)
    have d:=A2 z (f.block b (H.o b K))
    obtain ⟨a',R,rfl,_⟩:=l.cells
    rw[yB] at d
    obtain ⟨c0,c1,c2,c3,c4,c5⟩:=BJ d
    have Q:=yb (IH.o args[i] (yz g) (w:=wr) (most:=most - n) (AS.same (fun b h=>h) (DL H.o f) l) (fun b h=>yr (H.o b h) f.size) (by omega) (by omega))
    have y:Hid (Mk (args.drop (i+1)) most (n+KW args[i] (most - n))=S):=yb (by
     have h:=I.o
     rw[DC g,Mk,yw D] at h
     exact h)
    have r:=Jb args[i] (most - n)
    generalize args[i]=x at*
    generalize KW x (most - n)=s at r Q y
    have a6:1<=s:=r.1
    have a0:s<=most - n:=by omega
    clear l z d r f
    go_wp2_with (first|(go_at_call 23;refine Q.o.mono ?_;rintro e w2 ⟨rfl,C⟩;have G:=yb (t.o.trans (C.mono t.o.size));clear C))
    exact ⟨⟨i+1,n+s,rfl,by go_num,by omega,by omega,by omega,y,G⟩,by simp[intOf];omega⟩
   ·have M:Hid (n=S):=yb (by
     have h:=I.o
     rw[DC g,Mk,yu D] at h
     exact h)
    go_wp2
    go_ret
    exact ⟨KQ M.o,c.o.trans (t.o.mono c.o.size)⟩
  ·obtain rfl:i=m:=by omega
   have M:Hid (n=S):=yb (by
    have h:=I.o
    rw[<-V.o,zo,Mk] at h
    exact h)
   have L:decide ((i:Int) < (i:Int))=false:=by simp
   go_wp2
   go_ret
   exact ⟨KQ M.o,c.o.trans (t.o.mono c.o.size)⟩

def BY:List (List Us × Bool)->List Us × Bool
 |[]=>([],true)
 |x::r=>if x.2 then (x.1++(BY r).1,(BY r).2) else (x.1,false)
theorem Ff:∀(l m:List (List Us × Bool)),BY (l++m)=if (BY l).2 then ((BY l).1++(BY m).1,(BY m).2) else BY l
 |[],m=>by simp[BY]
 |x::r,m=>by
  simp only[z8,BY,Ff r m]
  by_cases h1:x.2=true
  ·by_cases h2:(BY r).2=true
   ·simp[h1,h2]
   ·simp[h1,h2]
  ·simp[h1]
theorem MK{l:List (List Us × Bool)}{k:Nat}(h:k < l.length)(a:(BY (l.take k)).2=true):BY (l.take (k+1))=((BY (l.take k)).1++l[k].1,l[k].2):=by
 rw[yt h,Ff,a,yw rfl]
 simp only[BY]
 by_cases h1:l[k].2=true
 ·simp[h1]
 ·simp[h1]
theorem Tv(l:List (List Us × Bool))(k:Nat):∃post,(BY l).1=(BY (l.take k)).1++post:=by
 have h:=Ff (l.take k) (l.drop k)
 rw[xB] at h
 rw[h]
 by_cases h1:(BY (l.take k)).2=true
 ·rw[yw h1];exact ⟨_,rfl⟩
 ·rw[yu h1];exact ⟨[],by simp⟩
theorem Se{l:List (List Us × Bool)}{k:Nat}(h:(BY (l.take k)).2=false):BY l=BY (l.take k):=by
 have h2:=Ff (l.take k) (l.drop k)
 rw[xB,h] at h2
 exact h2
def CQ(e:Ex):Bool:=Gi e.op e.n e.u e.rn e.ri e.args.length
def Tw(a:Array Value):Addr:=match a.getD 0 undef with
 |.pointer (some p)=>p
 |_=>⟨0,0,none⟩
def CO(w:World)(a:Array Value)(e:KD):List Us × Bool:=if CQ e.1 then ([],true) else Cx w e.2 e.1 (Tw a).block (Tw a).off
def Ea(w:World)(L:Bw)(x:Am):List (List Us × Bool):=List.zipWith (CO w) (Cd L) (AN x)
def Dv(a:Addr)(to at_:Int)(r:Rf):Us:=⟨a.block,a.off,to,at_,r.name,r.n⟩
def EO(h:Ai)(l:List Bd)(i:Nat):List Us:=match l[i]? with
 |some d=> [Dv (h.at 12 i 1) 4 0 d.on,Dv (h.at 12 i 10) (if d.river then 0 else 3) 0 d.crop]
 |none=> []
def FF(h:Ai)(l:List Bv)(i:Nat):List Us:=match l[i]? with
 |some d=> [Dv (h.at 8 i 0) 5 0 d.farm]
 |none=> []
def Hi(L:Bw)(l:List B6)(i:Nat):List Us:=match l[i]? with
 |some d=>Dv (L.rots.at 23 i 1) 4 0 d.on::(List.range (A4 L i).n).flatMap (FF (A4 L i) d.turns)
 |none=> []
def Dn(h:Ai)(l:List AG)(i:Nat):List Us:=match l[i]? with
 |some d=> [Dv (h.at 37 i 2) 5 0 d.farm,Dv (h.at 37 i 4) (if d.kind=1 then 0 else 4) 0 d.reach]
 |none=> []
def Er(h:Ai)(l:List BR)(i:Nat):List Us:=match l[i]? with
 |some d=> [Dv (h.at 11 i 1) 5 0 d.farm,Dv (h.at 11 i 3) 4 0 d.reach]
 |none=> []
def G0(k:Int):Bool:=decide (1<=k)&&decide (k<=3)
def Co(x:Am):Bool:=x.rights.all fun d=>G0 d.kind
def CD(L:Bw)(x:Am):List Us:=
 (((List.range L.farms.n).flatMap (EO L.farms x.farms)++(List.range L.rots.n).flatMap (Hi L x.rots))++(List.range L.rights.n).flatMap (Dn L.rights x.rights))++(List.range L.duties.n).flatMap (Er L.duties x.duties)
def EU(w:World)(L:Bw)(x:Am):List (List Us × Bool):=Ea w L x++[(if Co x then CD L x else [],Co x)]
def Cp(w:World)(L:Bw)(x:Am):List Us × Bool:=BY (EU w L x)
def WN(N:NP)(w:World)(C D:Addr->Prop)(a:Array Value)(e:KD):Prop:=
 ∃b o cs,a=#[.pointer (some ⟨b,o,none⟩),.int .i64 e.2]∧w.rangeAt b o cs∧AS N w e.1 cs∧S5 w C e.1 b o∧C ⟨b,o+1,none⟩∧C ⟨b,o+2,none⟩∧C ⟨b,o+3,none⟩∧D ⟨b,o+4,none⟩∧(e.1.op=0->C ⟨b,o+4,none⟩)
structure Lr (N:Nat->Prop) (w:World) (C D:Addr->Prop) (Bu:Nat) (L:Bw) (x:Am):Prop where
 ok:L.Ok
 heads:Jo L Bu w
 box:C ⟨Bu,0,none⟩
 src:∀j,19<=j->j<=25->C ⟨L.s,j,none⟩
 turns:∀i,i < L.rots.n->C (L.rots.at 23 i 22)
 river:∀i (h:i < x.farms.length),C (L.farms.at 12 i 3)∧w.cell? (L.farms.at 12 i 3)=some (.bool x.farms[i].river)
 kind:∀i (h:i < x.rights.length),C (L.rights.at 37 i 0)∧w.cell? (L.rights.at 37 i 0)=some (.int .i64 x.rights[i].kind)
 top:Az (WN N w C D) (Cd L) (AN x)
 nfarms:L.farms.n=x.farms.length
 nrots:L.rots.n=x.rots.length
 nturns:∀i (h:i < x.rots.length),(A4 L i).n=x.rots[i].turns.length
 nrights:L.rights.n=x.rights.length
 nduties:L.duties.n=x.duties.length
 few:∀e∈AN x,0<=e.2∧e.2<=1000000
 short:(CD L x).length<=1000000
def Xq(a:World)(C D:Addr->Prop)(W:World):Prop:=(∀p,C p->W.cell? p=a.cell? p)∧∀p,D p->∃z,W.cell? p=some (.int .i64 z)
theorem Fz{N:NP}{w:World}{C D:Addr->Prop}{Bu:Nat}{L:Bw}{x:Am}(h:Lr N w C D Bu L x):(Ea w L x).length=(Cd L).length:=by
 unfold Ea
 rw[List.length_zipWith,<-h.top.length];simp
end Go.Proofs.Ytghepahgkcigpaa
namespace Go.Proofs.Ytghepahgkcigpaa
open Go.RowKit
attribute [local go_sem] Oper.semAt_some
def Ju(x:Am):Bool:=decide (x.lets.length<=64)&&(decide (x.crops.length<=32)&&(decide (x.reaches.length<=64)&&(decide (x.farms.length<=600)&&(decide (x.rots.length<=64)&&(decide (x.rights.length<=256)&&decide (x.duties.length<=256))))))
def Gl(l:List B6):Bool:=l.all fun d=>decide (d.turns.length<=64)
def Es(x:Am):Bool:=(AN x).all fun e=>decide (AJ e.1<=8)
def NH(w:World)(ok:Bool)(e:Ending)(w':World):Prop:=Below w.heap.size w w'∧e=if ok then .returned (.tuple #[]) else .panicked [{v:=.iface 38 (.int .i64 2),recovered:=false}]
def LJ(Bs:Nat)(W1:World)(p:NP)(k:Nat)(O:NP)(W:World):Prop:=(∀b,O b->Bs < b)∧Below (Bs+1) W1 W∧p k
theorem LJ.stays{Bs:Nat}{W1:World}{p:NP}(l:W1.heap.size=Bs+1):E6 (LJ Bs W1 p):=by
 intro k O W m W' d e g f c a i
 have hs:=d.2.1.size
 refine ⟨fun b hb=>(i b hb).elim (d.1 b) (fun h=>by omega),d.2.1.trans ⟨g,f,c,e,fun b hb=>a b (fun j=>?_) (by omega)⟩,d.2.2⟩
 have:=d.1 b j
 omega
def Qi(x:Am)(k:Nat):Prop:=∀j (h:j < (AN x).length),j < k->AJ (AN x)[j].1<=8
def XF(N:NP)(s:Nat)(w:World)(x:Am)(k b o:Nat):Prop:=∃(h:k < (AN x).length) (cs:LV),(b=s∨N b)∧w.rangeAt b o cs∧AS N w (AN x)[k].1 cs
theorem MM{B:Nat}{a w:World}(h:Below B a w){g:Nat}(b:B<=g)(o:Obj):Below B a (w.putObj g o):=
 h.trans ⟨rfl,rfl,rfl,by simp,fun k hk=>World.putObj_heap_other (by omega)⟩
theorem Jv{B:Nat}{a w:World}(h:Below B a w){g:Nat}(b:B<=g)(row:Array Value):Below B a (w.setRow g row):=
 h.trans ⟨rfl,rfl,rfl,by simp[World.setRow],fun k hk=>by simp[World.setRow,yR,show g≠k by omega]⟩
section
variable{N:NP}{w:World}
theorem NI{e:Ex}{c:LV}(h:AS N w e c):∀v∈c,v.oneCell'=true:=by
 obtain ⟨a,cap,rfl,_⟩:=h.cells
 intro v b
 simp at b
 rcases b with rfl|rfl|rfl|rfl|rfl|rfl<;>rfl
theorem Jw{t:Ai}{cs:LV}{d:B6}(h:Hc N w t cs d):∀v∈cs,v.oneCell'=true:=by
 obtain ⟨_,_,c0,c1,c2,rfl,c,g1,b,_⟩:=h
 intro v a
 simp only[An,yK,yi,zp,xv] at a
 rcases a with rfl|(rfl|rfl)|rfl|h|h|h|rfl
 ·rfl
 ·rfl
 ·rfl
 ·rfl
 ·exact NI c v h
 ·exact NI g1 v h
 ·exact NI b v h
 ·rfl
theorem MN{t:Ai}{cs:LV}{d:B6}(h:Hc N w t cs d)(_:cs.length=23):cs[22]?=some (.slice t.a t.n t.c):=by
 obtain ⟨_,_,c0,c1,c2,rfl,e,g1,b,_⟩:=h
 obtain ⟨_,_,rfl,_⟩:=e.cells
 obtain ⟨_,_,rfl,_⟩:=g1.cells
 obtain ⟨_,_,rfl,_⟩:=b.cells
 rfl
theorem Qj{t:Ai}{cs:LV}{d:B6}(h:Hc N w t cs d):t.n=d.turns.length:=by
 obtain ⟨_,_,_,_,_,_,_,_,_,h,_⟩:=h
 exact h
end
def Wc(s:Nat)(F:Bool)(w:World)(a:Act)(w2:World):Prop:=w2=w∧∃X u7 u8 u9 u10 u11 M v u14 u15 u16 L o c Q z K R E C V A p J l y U n q i S G x r I e H u d T f O b t N W P h j g B k m D,a={tmps:=#[.pointer (some ⟨s,0,none⟩),undef,.bool F,undef,undef,undef,X,u7,u8,u9,u10,u11,M,v,u14,u15,u16,L,o,c,Q,z,K,R,E,C,V,A,p,J,l,y,U,n,q,i,S,G,x,r,I,e,H,u,d,T,f,O,b,t,N,W,P,h,j,g,B,k,m,D,undef,undef,undef,undef,undef,undef,undef,undef,undef,undef,undef,undef,undef,undef,undef,undef,undef,undef,undef,undef,undef,undef,undef,undef,undef,undef,undef,undef,undef],defers:=[]}
theorem Kv{N:NP}{w:World}{L:Bw}{cs:LV}{x:Am}(h:Bb N w L cs x)(hr:w.rangeAt L.s 0 cs)(hN:∀b,N b->b < w.heap.size)(hs:L.s < w.heap.size)(hd:∀e∈AN x,AJ e.1<=1000000):
  Calls Try.prog 25 #[.pointer (some ⟨L.s,0,none⟩)] w (NH w (Ju x&&(Gl x.rots&&Es x))):=by
 have HV:=yb h
 have aj:=yb hr
 have HN:=yb hN
 have HD:=yb hd
 have T:=yb (Lm (Bs:=w.heap.size) (h.same (fun b h=>h) (DL hN ((yg _ _).alloc (yf _) (.cells #[pV L.s 0] 0)))) (A2 hr (((yg _ _).alloc (yf _) (.cells #[pV L.s 0] 0)).block _ hs)) (by
  have:(w.alloc (.cells #[pV L.s 0] 0)).heap[w.heap.size]?=some (.cells #[pV L.s 0] 0 (0,0)):=World.alloc_heap_new _ _
  simp only[World.cell?,this];simp))
 have V:w.cell? (aV L.s 19)=some L.lets.v:=(((yg w.heap.size w).alloc (yf _) (.cells #[pV L.s 0] 0)).cell (p:=(aV L.s 19)) hs).symm.trans T.o.lets
 have X:w.cell? (aV L.s 20)=some L.crops.v:=(((yg w.heap.size w).alloc (yf _) (.cells #[pV L.s 0] 0)).cell (p:=(aV L.s 20)) hs).symm.trans T.o.crops
 have K:w.cell? (aV L.s 21)=some L.reaches.v:=(((yg w.heap.size w).alloc (yf _) (.cells #[pV L.s 0] 0)).cell (p:=(aV L.s 21)) hs).symm.trans T.o.reaches
 have U:w.cell? (aV L.s 22)=some L.farms.v:=(((yg w.heap.size w).alloc (yf _) (.cells #[pV L.s 0] 0)).cell (p:=(aV L.s 22)) hs).symm.trans T.o.farms
 have au:w.cell? (aV L.s 23)=some L.rots.v:=(((yg w.heap.size w).alloc (yf _) (.cells #[pV L.s 0] 0)).cell (p:=(aV L.s 23)) hs).symm.trans T.o.rots
 have S:w.cell? (aV L.s 24)=some L.rights.v:=(((yg w.heap.size w).alloc (yf _) (.cells #[pV L.s 0] 0)).cell (p:=(aV L.s 24)) hs).symm.trans T.o.rights
 have Y:w.cell? (aV L.s 25)=some L.duties.v:=(((yg w.heap.size w).alloc (yf _) (.cells #[pV L.s 0] 0)).cell (p:=(aV L.s 25)) hs).symm.trans T.o.duties
 unfold Ai.v at V X K U au S Y
 have n1:=h.lets.1;have n2:=h.crops.1;have n3:=h.reaches.1;have n4:=h.farms.1;have n5:=h.rots.1;have n6:=h.rights.1;have n7:=h.duties.1
 have hF:Ju x=(decide (L.lets.n<=64)&&(decide (L.crops.n<=32)&&(decide (L.reaches.n<=64)&&(decide (L.farms.n<=600)&&(decide (L.rots.n<=64)&&(decide (L.rights.n<=256)&&decide (L.duties.n<=256))))))):=by unfold Ju;rw[n1,n2,n3,n4,n5,n6,n7]
 have HF:=yb hF
 have N5:=yb n5
 clear h hr hN hd T n1 n2 n3 n4 n5 n6 n7 hF
 refine Cv (n:=10) Try.func25 rfl ?_
 simp only[Try.ntmps25,yD,yI,yM,Nat.reduceAdd,Nat.reduceSub,zO,zP,xe,zU,zk,z8]
 generalize cf:Ju x=F at HF ⊢
 clear cf
 refine Ah (A7 (Code.wp_mono (Q:=Exit.then (Wc L.s F w) (fun _ _ _=>False)) ?_ ?_))
 rotate_left
 ·go_wp2
  all_goals
   first
   |(obtain rfl:F=false:=by rw[HF.o];simp only[Bool.and_eq_false_iff,xz];omega
     exact ⟨rfl,_,_,_,_,_,_,_,_,_,_,_,_,_,_,_,_,_,_,_,_,_,_,_,_,_,_,_,_,_,_,_,_,_,_,_,_,_,_,_,_,_,_,_,_,_,_,_,_,_,_,_,_,_,_,rfl⟩)
   |(obtain rfl:F=decide ((L.duties.n:Int)<=256):=by rw[HF.o,xQ];simp only[yv,yW];omega
     exact ⟨rfl,_,_,_,_,_,_,_,_,_,_,_,_,_,_,_,_,_,_,_,_,_,_,_,_,_,_,_,_,_,_,_,_,_,_,_,_,_,_,_,_,_,_,_,_,_,_,_,_,_,_,_,_,_,_,rfl⟩)
 rintro (_|id|l|_|ch|_) a' w' h
 rotate_left
 ·exact h.elim
 ·exact h.elim
 ·exact h.elim
 ·exact h.elim
 ·exact h.elim
 obtain ⟨rfl,u6,u7,u8,u9,u10,u11,cu,c9,u14,u15,u16,bp,cq,cn,b8,cc,ct,cw,bm,bj,bb,cd,c8,bo,cp,b4,ba,b3,cr,ay,cl,ci,ca,bg,cj,aw,bn,bi,bw,b9,ax,ck,bu,bh,cx,cm,cv,co,bd,bz,ce,be,c6,cg,rfl⟩:=h
 clear V X K U S Y
 refine Ah (A7 ?_)
 go_wp2
 go_loopw [2,65] (fun fv iv wr=>∃i:Nat,i<=L.rots.n∧iv=iV i∧fv=.bool (F&&Gl (x.rots.take i))∧Hid (Below w'.heap.size w' wr)) (fun _ iv _=>L.rots.n - (intOf iv).toNat)
 case atStart=>exact ⟨0,yC _,rfl,by simp[Gl],yb (yg _ _)⟩
 case round=>
  obtain ⟨i,hi,rfl,rfl,y⟩:=hrel
  by_cases b5:i < L.rots.n
  ·have ac:i < x.rots.length:=by rw[<-N5.o];exact b5
   obtain ⟨b,o,f,he,bq,r,C,B⟩:=HV.o.rots.2.2 i ac
   have C:=A2 C (y.o.block b (HN.o b bq))
   have a0:=Jw B
   have a7:=MN B r
   have Z:=Qj B
   have ht:Gl (x.rots.take (i+1))=(Gl (x.rots.take i)&&decide ((A4 L i).n<=64)):=by
    rw[yt ac]
    unfold Gl
    rw[zj,Z]
    simp
   have HT:=yb ht
   have bv:(i:Int) < (L.rots.n:Int):=by omega
   have cz:L.rots.n<=140737488355328:=by have:=HV.o.rots.2.1;have:=N5.o;omega
   have aq:=yb C
   have P:=yb (yV a0)
   have a8:Hid ((Try.prog.info? 64).map (·.size)=some f.length):=yb (by rw[r];kernel_rfl)
   have R:Hid ((Try.prog.info? 64).map (·.size)=some f.toArray.size):=yb (by rw[yD];exact a8.o)
   have M:=yb r
   rw[he] at*
   have d3:((wr.alloc (.cells #[.string ⟨#[]⟩,.string ⟨#[]⟩,iV 0,iV 0,iV 0,iV 0,iV 0,.string ⟨#[]⟩,iV 0,.slice none 0 0,iV 0,iV 0,iV 0,.string ⟨#[]⟩,iV 0,.slice none 0 0,iV 0,iV 0,iV 0,.string ⟨#[]⟩,iV 0,.slice none 0 0,.slice none 0 0] 64)).setRow wr.heap.size f.toArray).cell? (aV wr.heap.size 22)=some (.slice (A4 L i).a (A4 L i).n (A4 L i).c):=by
    have bt:(wr.alloc (.cells #[.string ⟨#[]⟩,.string ⟨#[]⟩,iV 0,iV 0,iV 0,iV 0,iV 0,.string ⟨#[]⟩,iV 0,.slice none 0 0,iV 0,iV 0,iV 0,.string ⟨#[]⟩,iV 0,.slice none 0 0,iV 0,iV 0,iV 0,.string ⟨#[]⟩,iV 0,.slice none 0 0,.slice none 0 0] 64)).heap[wr.heap.size]?=some (.cells #[.string ⟨#[]⟩,.string ⟨#[]⟩,iV 0,iV 0,iV 0,iV 0,iV 0,.string ⟨#[]⟩,iV 0,.slice none 0 0,iV 0,iV 0,iV 0,.string ⟨#[]⟩,iV 0,.slice none 0 0,iV 0,iV 0,iV 0,.string ⟨#[]⟩,iV 0,.slice none 0 0,.slice none 0 0] 64 (0,0)):=World.alloc_heap_new _ _
    simp only[World.cell?,World.setRow,yR,bt]
    simp[a7]
   clear C Z ht r he a0 B
   generalize Gl (x.rots.take i)=G at HT ⊢
   cases am:(F&&G) with
   |false=>
    go_wp2_with (first|(refine ym rfl 64 _ rfl b (o+i*23) rfl f _ aq.o qX rfl a8.o ?_)|(refine yZ rfl 64 _ _ rfl wr.heap.size f.toArray rfl rfl 64 _ (World.alloc_heap_new _ _) R.o (by simp[M.o]) P.o ?_))
    refine ⟨⟨i+1,by omega,by push_cast;rfl,by rw[HT.o];revert am;cases F<;>cases G<;>simp<;>omega,yb (Jv (y.o.alloc y.o.size _) y.o.size _)⟩,by simp[intOf];omega⟩
   |true=>
    go_wp2_with (first|(refine ym rfl 64 _ rfl b (o+i*23) rfl f _ aq.o qX rfl a8.o ?_)|(refine yZ rfl 64 _ _ rfl wr.heap.size f.toArray rfl rfl 64 _ (World.alloc_heap_new _ _) R.o (by simp[M.o]) P.o ?_))
    refine ⟨⟨i+1,by omega,by push_cast;rfl,by rw[HT.o];revert am;cases F<;>cases G<;>simp<;>omega,yb (Jv (y.o.alloc y.o.size _) y.o.size _)⟩,by simp[intOf];omega⟩
  ·obtain rfl:i=L.rots.n:=by omega
   have bv:decide ((L.rots.n:Int) < (L.rots.n:Int))=false:=by simp
   have aa:x.rots.take L.rots.n=x.rots:=by rw[N5.o];exact yx
   rw[aa]
   clear aa
   go_wp2
   cases ad:(F&&Gl x.rots) with
   |false=>
    have g:(F&&(Gl x.rots&&Es x))=false:=by rw[<-zc,ad];rfl
    rw[g]
    clear g
    refine Ah (A7 ?_)
    go_wp2_with (first|(go_at_call 50;refine (CN _ _).mono ?_;rintro e w2 ⟨rfl,rfl⟩))
    exact ⟨y.o,rfl⟩
   |true=>
    have g:(F&&(Gl x.rots&&Es x))=Es x:=by rw[<-zc,ad];rfl
    rw[g]
    clear g
    refine Ah (A7 ?_)
    go_wp2_with (first|(go_at_call 50;refine (D4 _ _).mono ?_;rintro e w2 ⟨rfl,rfl⟩))
    refine Ah (A7 ?_)
    go_wp2_with (first|(go_at_call 67;refine (Fy _ _).mono ?_;rintro e w2 ⟨rfl,rfl⟩))
    refine EP ?_
    have HE:=yb (Ja HV.o aj.o)
    have E:Below w'.heap.size w' (w2.alloc (.cells #[pV L.s 0] 52)):=y.o.alloc y.o.size _
    have az:=yb E
    have J:(w2.alloc (.cells #[pV L.s 0] 52)).cell? (aV w2.heap.size 0)=some (pV L.s 0):=by
     have:(w2.alloc (.cells #[pV L.s 0] 52)).heap[w2.heap.size]?=some (.cells #[pV L.s 0] 52 (0,0)):=World.alloc_heap_new _ _
     simp only[World.cell?,this];simp
    have ai:(w2.alloc (.cells #[pV L.s 0] 52)).heap.size=w2.heap.size+1:=by simp
    have av:=yb J
    have u:=yb ai
    clear J ai E
    have ae:∀W,Below (w2.heap.size+1) (w2.alloc (.cells #[pV L.s 0] 52)) W->Below w'.heap.size w' W:=fun W hW=>az.o.trans (hW.mono (Nat.le_succ_of_le y.o.size))
    have m:=yb ae
    clear ae
    have ak:Hid (w'.heap.size<=w2.heap.size):=yb y.o.size
    clear y
    generalize d1:w2.alloc (.cells #[pV L.s 0] 52)=W1 at*
    refine Ei (n:=10) Try.func25 rfl (fun _ _=>rfl) (Ln 9 (by omega) w2.heap.size L HV.o.ok) (fun a ha=>by
      obtain ⟨i,hi,rfl⟩:=zg.1 ha
      obtain ⟨b,o,c,h1,_⟩:=HE.o.get i hi (by rw[<-HE.o.length];exact hi)
      rw[h1];rfl)
     (LJ w2.heap.size W1 (Qi x)) (fun _ _ _=>False) (fun ch=>LJ w2.heap.size W1 (fun _=>ch=[{v:=.iface 38 (iV 2),recovered:=false}]∧Es x=false) 0)
     (fun k a=>(LJ w2.heap.size W1 fun k=>Qi x k∧∃b o lt,XF N L.s w' x k b o∧a={tmps:=#[pV L.s 0,undef,.bool true,undef,u4,pV b o,u6,u7,u8,u9,u10,u11,cu,c9,u14,u15,u16,bp,cq,cn,b8,cc,ct,cw,bm,bj,bb,cd,c8,bo,cp,b4,ba,b3,cr,ay,cl,ci,ca,bg,cj,aw,bn,bi,bw,b9,ax,ck,bu,bh,cx,cm,cv,co,bd,bz,ce,be,c6,cg,pV L.s 0,pV L.s 0,pV L.s 23,.slice L.rots.a L.rots.n L.rots.c,iV L.rots.n,iV L.rots.n,.bool false,u67,u68,u69,u70,u71,u72,u73,u74,u75,u76,.bool true,.tuple #[],pV L.s 0,.func (.func 89) #[] #[pV w2.heap.size 0],pV b o,iV lt,undef,undef,undef,undef,undef,undef],defers:=[]}) k) ?_ (fun _ _ _ _ _ _ h=>h.elim) (fun _ _ O W O' W' h=>LJ.stays u.o 0 O W O' W' h) ?_ ?_ (fun _ _ _ h=>h.elim) (fun _ h=>by cases h) ?_ ?_ ?_ ?_ (fun _ _ _ _ _ _ h=>h.elim) ?_
    ·exact LJ.stays u.o
    ·exact fun a=>LJ.stays u.o
    ·rintro k O W ⟨hO,hb,hp⟩
     exact Lm (HV.o.same (fun b h=>h) (DL HN.o (m.o W hb))) (A2 aj.o ((m.o W hb).block _ hs)) ((hb.cell (p:=(aV w2.heap.size 0)) (xK _)).trans av.o)
    ·exact ⟨fun _ h=>h.elim,yg _ _,fun j _ I=>absurd I (by omega)⟩
    ·intro k hk O W l I hO hl _
     obtain ⟨b,o,f,h1,h2,h3,h4⟩:=HE.o.get k hk (by rw[<-HE.o.length];exact hk)
     have H:k < (AN x).length:=by rw[<-HE.o.length];exact hk
     rw[h1]
     generalize (AN x)[k].2=lt
     have A:=yb I
     have HP:Hid (XF N L.s w' x k b o):=yb ⟨H,f,h2,h3,h4⟩
     clear I hO hl h1 h2 h3 h4
     gi_wp2
     first
     |exact ⟨BL.refl _ _,A.o.1,A.o.2.1,A.o.2.2,b,o,lt,HP.o,rfl⟩
     |(rename_i hK;exact hK _ _ ⟨BL.refl _ _,A.o.1,A.o.2.1,A.o.2.2,b,o,lt,HP.o,rfl⟩)
     |(rename_i hK _;exact hK _ _ ⟨BL.refl _ _,A.o.1,A.o.2.1,A.o.2.2,b,o,lt,HP.o,rfl⟩)
     |fail
    ·rintro k hk O W l a1 hl af ag ⟨hO,hb,hd,b,o,lt,⟨H,f,h1,h2,h3⟩,rfl⟩
     obtain ⟨ea,cy,rfl,e1,e2,e3⟩:=h3.cells
     have ap:b < w'.heap.size:=by
      rcases h1 with rfl|h1
      ·exact hs
      ·exact HN.o b h1
     obtain ⟨c0,c1,c2,c3,c4,c5⟩:=BJ (A2 h2 ((m.o W hb).block b ap))
     have hw:AS N W (AN x)[k].1 _:=h3.same (fun b h=>h) (DL HN.o (m.o W hb))
     have t:=yb (RT (AN x)[k].1 hw (fun b E=>yr (HN.o b E) (m.o W hb).size) (HD.o _ (yz H)))
     have HO:=yb hO
     have al:=yb ag
     have ar:=u.o
     have an:Hid (w2.heap.size+1<=W.heap.size):=yb (by rw[<-ar];exact hb.size)
     clear ar
     have ah:=yb hb
     have c7:=yb hd
     have HK:=yb H
     have hX:Hid (∀d,d=AJ (AN x)[k].1->(d<=8->Qi x (k+1))∧(8 < d->Es x=false)):=yb fun d d2=>by
      refine ⟨fun h j I d0=>?_,fun h=>?_⟩
      ·rcases zS j k with h9|h9
       ·exact c7.o j I h9
       ·obtain rfl:j=k:=by omega
        omega
      ·unfold Es
       rw[xx]
       exact ⟨_,yz HK.o,by simp;omega⟩
     clear ag hw hO hb hd hl af h2 h3 e1 e2 e3 h1 ap
     by_cases h8:AJ (AN x)[k].1<=8
     ·have HT:=yb ((hX.o _ rfl).1 h8)
      have z:decide ((AJ (AN x)[k].1:Int)<=8)=true:=by simp;omega
      clear h8 hX
      generalize AJ (AN x)[k].1=dd at t z
      gi_wp2_with fail
      refine ⟨trivial,zq (CallsIn.inRound l (za.2 t.o)) ?_⟩
      rintro e w3 ⟨rfl,q⟩
      gi_wp2_with fail
      refine ⟨trivial,zq (CallsIn.inRound l (za.2 (D4 _ _))) ?_⟩
      rintro e w4 ⟨rfl,rfl⟩
      try gi_wp2_with fail
      exact ⟨⟨q.size,fun b hb=>q.block b (al.o b hb)⟩,HO.o,ah.o.trans (q.mono an.o),HT.o⟩
     ·have HT:=yb ((hX.o _ rfl).2 (by omega))
      have z:decide ((AJ (AN x)[k].1:Int)<=8)=false:=by simp;omega
      clear h8 hX
      generalize AJ (AN x)[k].1=dd at t z
      gi_wp2_with fail
      refine ⟨trivial,zq (CallsIn.inRound l (za.2 t.o)) ?_⟩
      rintro e w3 ⟨rfl,q⟩
      gi_wp2_with fail
      refine ⟨trivial,zq (CallsIn.inRound l (za.2 (CN _ _))) ?_⟩
      rintro e w4 ⟨rfl,rfl⟩
      try gi_wp2_with fail
      exact ⟨rfl,⟨q.size,fun b hb=>q.block b (al.o b hb)⟩,HO.o,ah.o.trans (q.mono an.o),rfl,HT.o⟩
    ·rintro - D O W hD - I a6
     have a2:Es x=true:=by
      unfold Es
      rw[yO]
      intro e he
      obtain ⟨j,ao,rfl⟩:=zg.1 he
      simp only[yW]
      exact I.2.2 j ao (by rw[HE.o.length];exact ao)
     rw[a2]
     exact ⟨by simp,.inl ⟨_,_,rfl,run_takeDeferred a6,⟨_,zx rfl _ _ _,MM (m.o W I.2.1) (by have:=u.o;have:=ak.o;omega) _,rfl⟩⟩⟩
    ·rintro D ch O W hD - ⟨-,hb,rfl,hd⟩ a6
     rw[hd]
     exact ⟨by simp,.inl ⟨_,_,rfl,run_takeDeferred a6,⟨MM (m.o W hb) (by have:=u.o;have:=ak.o;omega) _,rfl⟩⟩⟩
end Go.Proofs.Ytghepahgkcigpaa
namespace Go.Proofs.Ytghepahgkcigpaa
open Go.RowKit
theorem GQ{W:World}{b o m i:Nat}{s:ByteArray}{z most:Int}{nms:LB}(h0:W.cell? ⟨b,o,none⟩=some (.string s))(h1:W.cell? ⟨b,o+1,none⟩=some (.int .i64 z))(g:W.frozen? ⟨b,o+1,none⟩=false)(d:Cq W m nms)(hs:s.size<=maxLen)(c:AR nms s=some i)(hi:(i:Int) < most):
  Calls Try.prog 49 #[.pointer (some ⟨b,o,none⟩),.map (some m),.int .i64 most] W fun e w'=>e=.returned (.tuple #[])∧w'=W.setCell ⟨b,o+1,none⟩ (.int .i64 (i:Int)):=by
 have a:=d.look s hs
 simp only[J5,c] at a
 have f:=yb c
 clear c d
 go_enter Try.func49,Try.ntmps49
 go_wp2_with (first|(go_at_call 50;refine (D4 _ _).mono ?_;rintro e h ⟨rfl,rfl⟩))
 go_end0
 exact ⟨rfl,rfl⟩
theorem IE{W:World}{b o m:Nat}{s:ByteArray}{most:Int}{nms:LB}(h0:W.cell? ⟨b,o,none⟩=some (.string s))(f:Cq W m nms)(hs:s.size<=maxLen)(d:∀i,AR nms s=some i->¬ (i:Int) < most):
  Calls Try.prog 49 #[.pointer (some ⟨b,o,none⟩),.map (some m),.int .i64 most] W fun e w'=>e=.panicked (F9 170)∧w'=W:=by
 have c:=f.look s hs
 cases a:AR nms s with
 |none=>
  simp only[J5,a] at c
  have j:=yb d;have h:=yb a
  clear d f a
  go_enter Try.func49,Try.ntmps49
  go_wp2_with (first|(go_at_call 50;refine (CN _ _).mono ?_;rintro e g ⟨rfl,rfl⟩))
  exact ⟨rfl,rfl,rfl⟩
 |some i=>
  have hi:=d i a
  simp only[J5,a] at c
  have h:=yb a
  clear d f a
  go_enter Try.func49,Try.ntmps49
  go_wp2_with (first|(go_at_call 50;refine (CN _ _).mono ?_;rintro e g ⟨rfl,rfl⟩))
  exact ⟨rfl,rfl,rfl⟩
def I4{α:Type}(B:Nat)(W:World)(t sz:Nat)(Q:LV->α->Prop)(h:Ai)(l:List α):Prop:=
 h.n=l.length∧∀i (hi:i < l.length),∃g cs,h.a=some ⟨g,0,none⟩∧B<=g∧Ty W g t∧cs.length=sz∧W.rangeAt g (i*sz) cs∧Q cs l[i]
theorem I4.of{α:Type}{B b:Nat}{W:World}{t sz:Nat}{Q:LV->α->Prop}{h:Ai}{l:List α}(c:h.n=l.length)(e:B<=b)(d:∀i (hi:i < l.length),∃g cs,h.a=some ⟨g,0,none⟩∧b<=g∧Ty W g t∧cs.length=sz∧W.rangeAt g (i*sz) cs∧Q cs l[i]):I4 B W t sz Q h l:=
 ⟨c,fun i hi=>by
  obtain ⟨g,cs,h1,h2,h3⟩:=d i hi
  exact ⟨g,cs,h1,yl e h2,h3⟩⟩
theorem I4.up{α:Type}{B:Nat}{W W':World}{t sz:Nat}{Q:LV->α->Prop}{h:Ai}{l:List α}(a:I4 B W t sz Q h l)(hb:∀b,B<=b->b < W.heap.size->W'.heap[b]?=W.heap[b]?):I4 B W' t sz Q h l:=
 ⟨a.1,fun i hi=>by
  obtain ⟨g,cs,h1,h2,h3,h4,h5,h6⟩:=a.2 i hi
  exact ⟨g,cs,h1,h2,h3.same (hb g h2 h3.lt),h4,A2 h5 (hb g h2 h3.lt),h6⟩⟩
theorem I4.upT{α:Type}{B:Nat}{W W':World}{t sz:Nat}{Q:LV->α->Prop}{h:Ai}{l:List α}(a:I4 B W t sz Q h l)(hb:∀b,B<=b->Ty W b t->W'.heap[b]?=W.heap[b]?):I4 B W' t sz Q h l:=
 ⟨a.1,fun i hi=>by
  obtain ⟨g,cs,h1,h2,h3,h4,h5,h6⟩:=a.2 i hi
  exact ⟨g,cs,h1,h2,h3.same (hb g h2 h3),h4,A2 h5 (hb g h2 h3),h6⟩⟩
theorem CG{w:World}{b o:Nat}{v:Value}{l:LV}(h:w.rangeAt b o (v::l)):w.cell? ⟨b,o,none⟩=some v∧w.rangeAt b (o+1) l:=
 ⟨h 0 v rfl,fun j u a=>by have:=h (j+1) u (by simpa using a);rw[show o+1+j=o+(j+1) by omega];exact this⟩
theorem MV{w:World}{b o:Nat}{l m:LV}(h:w.rangeAt b o (l++m)):w.rangeAt b o l∧w.rangeAt b (o+l.length) m:=
 ⟨fun j u a=>h j u (by rw[zC (yA.1 a).1];exact a),fun j u a=>by
  have:=h (l.length+j) u (by rw[yL (by omega),xN];exact a)
  rw[show o+l.length+j=o+(l.length+j) by omega];exact this⟩
theorem Cr{w:World}{b o:Nat}{c l:LV}(hc:c.length=6)(h:w.rangeAt b o (c++l)):w.rangeAt b o c∧w.rangeAt b (o+6) l:=by
 have:=MV h
 rw[hc] at this;exact this
theorem Et{w:World}{b o:Nat}{r:Rf}{l:LV}(hs:r.name.size<=maxLen)(to:Int)(h:w.rangeAt b o (An r++l)):RV w to r b o∧w.rangeAt b (o+2) l:=by
 obtain ⟨h1,h2⟩:=MV h
 exact ⟨⟨hs,h1 0 _ rfl,h1 1 _ rfl⟩,h2⟩
section
variable{N N':NP}{w W:World}{B:Nat}{h:Ai}
theorem DG(hb:∀b,N b->W.heap[b]?=w.heap[b]?){e:Ex}{c:LV}{b o:Nat}(lt:Int)(a:AS N w e c)(d:W.rangeAt b o c):EV N W lt e b o:=⟨c,d,a.same (fun _ h=>h) hb⟩
theorem Hj{α:Type}{t sz:Nat}{Q:LV->α->Prop}{P:Nat->Nat->Nat->α->Prop}{l:List α}(b:I4 B W t sz Q h l)(hl:l.length<=100000)(hN:∀g,B<=g->N' g)(c:∀i (_:i < l.length) g cs,h.a=some ⟨g,0,none⟩->W.rangeAt g (i*sz) cs->Q cs l[i]->P i g (i*sz) l[i]):EN N' W t sz P h l:=
 ⟨b.1,by omega,fun i hi=>by
  obtain ⟨g,cs,h1,h2,h3,h4,h5,h6⟩:=b.2 i hi
  exact ⟨g,h1,hN g h2,h3,c i hi g cs h1 h5 h6⟩⟩
variable(hb:∀b,N b->W.heap[b]?=w.heap[b]?)
include hb
theorem Sj(i g o:Nat)(cs:LV)(d:CF)(a:W.rangeAt g o cs)(h:GB N w cs d):WM (EV N W) W i g o d:=by
 obtain ⟨h1,c,rfl,h2⟩:=h
 obtain ⟨r0,r1⟩:=CG a
 exact ⟨⟨h1,r0⟩,DG hb _ h2 r1⟩
theorem Qn(i g o:Nat)(cs:LV)(d:Br)(a:W.rangeAt g o cs)(h:DZ N w cs d):VN (EV N W) W i g o d:=by
 obtain ⟨h1,c,rfl,h2⟩:=h
 obtain ⟨r0,r1⟩:=CG a
 exact ⟨⟨h1,r0⟩,DG hb _ h2 r1⟩
theorem OO(i g o:Nat)(cs:LV)(d:At)(m:W.rangeAt g o cs)(h:CT N w cs d):Tp (EV N W) (RV W) W i g o d:=by
 obtain ⟨h1,h2,c0,c1,c2,x,c4,y,u,v,rfl,b,g1,e,j,a,k,c,s⟩:=h
 obtain ⟨r0,r⟩:=CG m
 obtain ⟨f,r⟩:=Et h2 (if i=0 then 0 else 6) r
 obtain ⟨s0,r⟩:=Cr b.len r
 obtain ⟨s1,r⟩:=Cr g1.len r
 obtain ⟨s2,r⟩:=Cr e.len r
 obtain ⟨p,r⟩:=Cr j.len r
 obtain ⟨l,r⟩:=Cr a.len r
 obtain ⟨q,r⟩:=Cr k.len r
 obtain ⟨t,n⟩:=Cr c.len r
 exact ⟨⟨h1,r0⟩,f,DG hb _ b s0,DG hb _ g1 s1,DG hb _ e s2,DG hb _ j p,DG hb _ a l,DG hb _ k q,DG hb _ c t,DG hb _ s n⟩
theorem Qo(i g o:Nat)(cs:LV)(d:Bd)(c:W.rangeAt g o cs)(h:E7 N w cs d):VO (EV N W) (RV W) W i g o d:=by
 obtain ⟨h1,h2,h3,c0,rfl,a⟩:=h
 obtain ⟨r0,r⟩:=CG c
 obtain ⟨f,r⟩:=Et h2 4 r
 obtain ⟨v,r⟩:=CG r
 obtain ⟨s0,r⟩:=Cr a.len r
 obtain ⟨b,_⟩:=Et (l:=[]) h3 (if d.river then 0 else 3) (by rw[zt];exact r)
 exact ⟨⟨h1,r0⟩,f,v,DG hb _ a s0,b⟩
theorem Qp(i g o:Nat)(cs:LV)(d:Bv)(a:W.rangeAt g o cs)(h:E0 N w cs d):VP (EV N W) (RV W) i g o d:=by
 obtain ⟨h1,c0,rfl,b⟩:=h
 obtain ⟨f,r⟩:=Et h1 5 a
 exact ⟨f,DG hb _ b r⟩
theorem OP(i g o:Nat)(cs:LV)(d:AG)(m:W.rangeAt g o cs)(h:CU N w cs d):Tq (EV N W) (RV W) W i g o d:=by
 obtain ⟨h1,h2,h3,c0,c1,c2,p,c4,rfl,a,g1,b,c,l⟩:=h
 obtain ⟨k,r⟩:=CG m
 obtain ⟨r0,r⟩:=CG r
 obtain ⟨f,r⟩:=Et h2 5 r
 obtain ⟨e,r⟩:=Et h3 (if d.kind=1 then 0 else 4) r
 obtain ⟨v,r⟩:=CG r
 obtain ⟨s0,r⟩:=Cr a.len r
 obtain ⟨s1,r⟩:=Cr g1.len r
 obtain ⟨s2,r⟩:=Cr b.len r
 obtain ⟨n,j⟩:=Cr c.len r
 exact ⟨k,⟨h1,r0⟩,f,e,v,DG hb _ a s0,DG hb _ g1 s1,DG hb _ b s2,DG hb _ c n,DG hb _ l j⟩
theorem Qq(i g o:Nat)(cs:LV)(d:BR)(b:W.rangeAt g o cs)(h:E8 N w cs d):VQ (EV N W) (RV W) W i g o d:=by
 obtain ⟨h1,h2,h3,c0,rfl,c⟩:=h
 obtain ⟨r0,r⟩:=CG b
 obtain ⟨f,r⟩:=Et h2 5 r
 obtain ⟨a,r⟩:=Et h3 4 r
 exact ⟨⟨h1,r0⟩,f,a,DG hb _ c r⟩
end
structure Ih (x:Am):Prop where
 lets:x.lets.length<=100000
 crops:x.crops.length<=100000
 reaches:x.reaches.length<=100000
 farms:x.farms.length<=100000
 rots:x.rots.length<=100000
 rights:x.rights.length<=100000
 duties:x.duties.length<=100000
 turns:∀d∈x.rots,d.turns.length<=100000
 exprs:∀e∈AN x,Bg e.1
theorem TD{N N':NP}{w U W:World}{B:Nat}{L L':Bw}{l:List B6}(hb:∀b,N b->W.heap[b]?=w.heap[b]?)(z:I4 B U 64 23 (fun cs (d:B6 × Nat)=>Hc N w (A4 L d.2) cs d.1) L'.rots l.zipIdx)(hN:∀g,B<=g->N' g)(hl:l.length<=100000)
 (y:∀d∈l,d.turns.length<=100000)(o:∀g,L'.rots.a=some ⟨g,0,none⟩->Ty U g 64->Ty W g 64)(hc:∀g,L'.rots.a=some ⟨g,0,none⟩->∀i q,q < 22->W.cell? ⟨g,i*23+q,none⟩=U.cell? ⟨g,i*23+q,none⟩)
 (D:∀i (_:i < l.length) g,L'.rots.a=some ⟨g,0,none⟩->W.cell? ⟨g,i*23+22,none⟩=some (A4 L' i).v)(F:∀i (h:i < l.length),I4 B W 66 8 (E0 N w) (A4 L' i) l[i].turns):
  EN N' W 64 23 (Wb N' (EV N W) (RV W) W (A4 L')) L'.rots l:=by
 refine ⟨by have:=z.1;rwa [zE] at this,by omega,fun i hi=>?_⟩
 obtain ⟨g,cs,n,G,E,J,I,p⟩:=z.2 i (by rw[zE];exact hi)
 rw[xg] at p
 simp only[yB] at p
 refine ⟨g,n,hN g G,o g n E,?_⟩
 obtain ⟨h1,h2,c0,c1,c2,rfl,s,g1,C,_⟩:=p
 have x:W.rangeAt g (i*23) (.string l[i].name::(An l[i].on++(iV l[i].rank::(c0++(c1++c2))))):=fun j u A=>by
  have c:=(yA.1 A).1
  have m:(Value.string l[i].name::(An l[i].on++(iV l[i].rank::(c0++(c1++c2))))).length=22:=by simp[A8,s.len,g1.len,C.len]
  rw[m] at c
  rw[hc g n i j c]
  refine I j u ?_
  have e:(Value.string l[i].name::(An l[i].on++(iV l[i].rank::(c0++(c1++(c2++[(A4 L i).v]))))))=(Value.string l[i].name::(An l[i].on++(iV l[i].rank::(c0++(c1++c2)))))++[(A4 L i).v]:=by simp
  rw[e,zC (by omega)]
  exact A
 obtain ⟨r0,r⟩:=CG x
 obtain ⟨f,r⟩:=Et h2 4 r
 obtain ⟨v,r⟩:=CG r
 obtain ⟨s0,r⟩:=Cr s.len r
 obtain ⟨s1,s2⟩:=Cr g1.len r
 exact ⟨⟨h1,r0⟩,f,v,DG hb _ s s0,DG hb _ g1 s1,DG hb _ C s2,D i hi g n,Hj (F i hi) (y _ (yz hi)) hN (fun k hk g cs _ t H=>Qp hb k g (k*8) cs _ t H)⟩
theorem Qr{N N':NP}{w W:World}{B:Nat}{L:Bw}{x:Am}{d f e:Option Addr}{h p1 p2:Nat}(hb:∀b,N b->W.heap[b]?=w.heap[b]?)(hN:∀g,B<=g->N' g)(hs:Ih x)
 (hc:W.heap[L.s]?=some (.cells #[.string x.name,.int .i64 x.season.op,.int .i64 x.season.n,.int .i64 x.season.u,.string x.season.rn,.int .i64 x.season.ri,.slice d x.season.args.length h,.int .i64 x.cap.op,.int .i64 x.cap.n,.int .i64 x.cap.u,.string x.cap.rn,.int .i64 x.cap.ri,.slice f x.cap.args.length p1,.int .i64 x.start.op,.int .i64 x.start.n,.int .i64 x.start.u,.string x.start.rn,.int .i64 x.start.ri,.slice e x.start.args.length p2,L.lets.v,L.crops.v,L.reaches.v,L.farms.v,L.rots.v,L.rights.v,L.duties.v] 35 (0,0)))(k:x.name.size<=maxLen)(h0:AS N w x.season [.int .i64 x.season.op,.int .i64 x.season.n,.int .i64 x.season.u,.string x.season.rn,.int .i64 x.season.ri,.slice d x.season.args.length h])(h1:AS N w x.cap [.int .i64 x.cap.op,.int .i64 x.cap.n,.int .i64 x.cap.u,.string x.cap.rn,.int .i64 x.cap.ri,.slice f x.cap.args.length p1])(h2:AS N w x.start [.int .i64 x.start.op,.int .i64 x.start.n,.int .i64 x.start.u,.string x.start.rn,.int .i64 x.start.ri,.slice e x.start.args.length p2])
 (q:I4 B W 55 7 (GB N w) L.lets x.lets)(rc:I4 B W 57 7 (DZ N w) L.crops x.crops)(m:I4 B W 51 51 (CT N w) L.reaches x.reaches)(o:I4 B W 59 12 (E7 N w) L.farms x.farms)
 (p:EN N' W 64 23 (Wb N' (EV N W) (RV W) W (A4 L)) L.rots x.rots)(ri:I4 B W 68 37 (CU N w) L.rights x.rights)(l:I4 B W 70 11 (E8 N w) L.duties x.duties):Cy N' (EV N W) (RV W) W L x:=by
 have cell:∀j v,#[.string x.name,iV x.season.op,iV x.season.n,iV x.season.u,.string x.season.rn,iV x.season.ri,.slice d x.season.args.length h,iV x.cap.op,iV x.cap.n,iV x.cap.u,.string x.cap.rn,iV x.cap.ri,.slice f x.cap.args.length p1,iV x.start.op,iV x.start.n,iV x.start.u,.string x.start.rn,iV x.start.ri,.slice e x.start.args.length p2,L.lets.v,L.crops.v,L.reaches.v,L.farms.v,L.rots.v,L.rights.v,L.duties.v][j]?=some v->W.cell? (aV L.s j)=some v:=fun j v r=>by simp only[World.cell?,hc];simpa using r
 refine ⟨⟨_,hc⟩,⟨k,cell 0 _ rfl⟩,?_,?_,?_,cell 19 _ rfl,cell 20 _ rfl,cell 21 _ rfl,cell 22 _ rfl,cell 23 _ rfl,cell 24 _ rfl,cell 25 _ rfl,?_,?_,?_,?_,p,?_,?_⟩
 ·exact DG hb 0 h0 (A6 (cell 1 _ rfl) (A6 (cell 2 _ rfl) (A6 (cell 3 _ rfl) (A6 (cell 4 _ rfl) (A6 (cell 5 _ rfl) (Cn (cell 6 _ rfl)))))))
 ·exact DG hb 0 h1 (A6 (cell 7 _ rfl) (A6 (cell 8 _ rfl) (A6 (cell 9 _ rfl) (A6 (cell 10 _ rfl) (A6 (cell 11 _ rfl) (Cn (cell 12 _ rfl)))))))
 ·exact DG hb 0 h2 (A6 (cell 13 _ rfl) (A6 (cell 14 _ rfl) (A6 (cell 15 _ rfl) (A6 (cell 16 _ rfl) (A6 (cell 17 _ rfl) (Cn (cell 18 _ rfl)))))))
 ·exact Hj q hs.lets hN (fun i _ g cs _ a c=>Sj hb i g _ cs _ a c)
 ·exact Hj rc hs.crops hN (fun i _ g cs _ a c=>Qn hb i g _ cs _ a c)
 ·exact Hj m hs.reaches hN (fun i _ g cs _ a c=>OO hb i g _ cs _ a c)
 ·exact Hj o hs.farms hN (fun i _ g cs _ a c=>Qo hb i g _ cs _ a c)
 ·exact Hj ri hs.rights hN (fun i _ g cs _ a c=>OP hb i g _ cs _ a c)
 ·exact Hj l hs.duties hN (fun i _ g cs _ a c=>Qq hb i g _ cs _ a c)
theorem Dh{α:Type}{f:Nat->α->α}(h:∀i a,f i a=a)(l:List α):l.mapIdx f=l:=by
 refine zn (by simp) fun i h1 h2=>?_
 rw[zs];exact h _ _
theorem WO(x:Am):x.mp (fun _ e=>e) (fun _ r=>r)=x:=by
 unfold Am.mp
 have h1:=Dh (f:=CF.mp fun _ e=>e) (fun _ _=>rfl) x.lets
 have h2:=Dh (f:=Br.mp fun _ e=>e) (fun _ _=>rfl) x.crops
 have h3:=Dh (f:=At.mp (fun _ e=>e) fun _ r=>r) (fun _ _=>rfl) x.reaches
 have h4:=Dh (f:=Bd.mp (fun _ e=>e) fun _ r=>r) (fun _ _=>rfl) x.farms
 have h5:=Dh (f:=B6.mp (fun _ e=>e) fun _ r=>r) (fun _ d=>by
  unfold B6.mp
  rw[Dh (f:=Bv.mp (fun _ e=>e) fun _ r=>r) (fun _ _=>rfl) d.turns]) x.rots
 have h6:=Dh (f:=AG.mp (fun _ e=>e) fun _ r=>r) (fun _ _=>rfl) x.rights
 have a:=Dh (f:=BR.mp (fun _ e=>e) fun _ r=>r) (fun _ _=>rfl) x.duties
 rw[h1,h2,h3,h4,h5,h6,a]
section
variable{N:NP}{E E':Int->Ex->Nat->Nat->Prop}{R R':Int->Rf->Nat->Nat->Prop}{w w':World}{L:Bw}{x:Am}
theorem Cy.imp(h:Cy N E R w L x)(a:∀b t,(N b∨b=L.s)->Ty w b t->Ty w' b t)(d:∀b o,(N b∨b=L.s)->OA w b o->w'.cell? ⟨b,o,none⟩=w.cell? ⟨b,o,none⟩)
 (c:∀lt e b o,(N b∨b=L.s)->Hg w b o->E lt e b o->E' lt e b o)(i:∀to r b o,(N b∨b=L.s)->Qa w b o->R to r b o->R' to r b o):Cy N E' R' w' L x:=by
 have:=h.map (f:=fun _ e=>e) (g:=fun _ r=>r) a d c i
 rwa [WO] at this
theorem Ag{w w':World}{b o:Nat}(h:w'.heap[b]?=w.heap[b]?):w'.cell? ⟨b,o,none⟩=w.cell? ⟨b,o,none⟩:=by
 unfold World.cell?;rw[h]
theorem Hg.lt{b o:Nat}(h:Hg w b o):b < w.heap.size:=by obtain ⟨t,h,_⟩:=h;exact h.lt
theorem Qa.lt{b o:Nat}(h:Qa w b o):b < w.heap.size:=by obtain ⟨t,h,_⟩:=h;exact h.lt
theorem OA.lt{b o:Nat}(h:OA w b o):b < w.heap.size:=by obtain ⟨t,h,_⟩:=h;exact h.lt
theorem Cy.up{M:NP}(h:Cy N (EV M w) (RV w) w L x)(hM:∀b,M b->b < w.heap.size)(hb:Below w.heap.size w w'):Cy N (EV M w') (RV w') w' L x:=by
 refine h.imp (fun b t _ g=>g.same (hb.block b g.lt)) (fun b o _ a=>Ag (hb.block b a.lt)) (fun lt e b o _ a i=>?_) (fun to r b o _ a d=>?_)
 ·obtain ⟨c,h1,h2⟩:=i
  exact ⟨c,A2 h1 (hb.block b a.lt),h2.same (fun _ h=>h) (fun b f=>hb.block b (hM b f))⟩
 ·exact ⟨d.1,(Ag (hb.block b a.lt)).trans d.2.1,(Ag (hb.block b a.lt)).trans d.2.2⟩
end
theorem Az.split{α β:Type}{R:α->β->Prop}:∀ {l:List α} {m:List β} {l':List α} {a:List β},l.length=m.length->Az R (l++l') (m++a)->Az R l m∧Az R l' a
 |[],[],_,_,_,h=>⟨trivial,h⟩
 |_::_,_::_,_,_,hl,h=>by
  obtain ⟨h1,h2⟩:=Az.split (by simpa using hl) h.2
  exact ⟨⟨h.1,h1⟩,h2⟩
 |[],_::_,_,_,hl,_=>by simp at hl
 |_::_,[],_,_,hl,_=>by simp at hl
theorem J6{α β γ:Type}{R:α->β->Prop}(f:Nat->List α)(g:Nat->γ->List β):∀(l:List γ) (k:Nat),(∀i (h:i < l.length),(f (k+i)).length=(g (k+i) l[i]).length)->
  Az R ((List.range' k l.length).flatMap f) ((l.zipIdx k).flatMap fun p=>g p.2 p.1)->∀i (h:i < l.length),Az R (f (k+i)) (g (k+i) l[i])
 |[],_,_,_,i,h=>by simp at h
 |x::r,k,hl,hA,i,h=>by
  rw[yI,List.range'_succ,zv,List.zipIdx_cons,zv] at hA
  obtain ⟨h1,h2⟩:=Az.split (hl 0 (by simp)) hA
  cases i with
  |zero=>exact h1
  |succ i=>
   have:=J6 f g r (k+1) (fun i hi=>by have:=hl (i+1) (by simpa using hi);rw[show k+1+i=k+(i+1) by omega];simpa using this) h2 i (by simpa using h)
   rw[show k+1+i=k+(i+1) by omega] at this
   simpa using this
theorem Cg{α β γ:Type}{R:α->β->Prop}(f:Nat->List α)(g:Nat->γ->List β)(l:List γ)(n:Nat)(b:n=l.length)(hl:∀i (h:i < l.length),(f i).length=(g i l[i]).length)(a:Az R ((List.range n).flatMap f) (l.zipIdx.flatMap fun p=>g p.2 p.1)):∀i (h:i < l.length),Az R (f i) (g i l[i]):=by
 subst b
 rw[List.range_eq_range'] at a
 intro i h
 have:=J6 f g l 0 (fun i hi=>by rw[yB];exact hl i hi) a i h
 rwa [yB] at this
theorem G2{α β γ:Type}(f:Nat->List α)(g:Nat->γ->List β)(l:List γ)(n:Nat)(c:n=l.length)(hl:∀i (h:i < l.length),(f i).length=(g i l[i]).length):((List.range n).flatMap f).length=(l.zipIdx.flatMap fun p=>g p.2 p.1).length:=
 Az.length (R:=fun _ _=>True) (Bt f g l n c (fun i h=>by
  have:∀(a:List α) (b:List β),a.length=b.length->Az (fun _ _=>True) a b:=by
   intro a
   induction a with
   |nil=>intro b hb;cases b with
    |nil=>trivial
    |cons=>simp at hb
   |cons x r ih=>intro b hb;cases b with
    |nil=>simp at hb
    |cons y s=>exact ⟨trivial,ih s (by simpa using hb)⟩
  exact this _ _ (hl i h)))
def TE(E:Int->Ex->Nat->Nat->Prop)(a:Array Value)(e:KD):Prop:=∃b o,a=#[.pointer (some ⟨b,o,none⟩),.int .i64 e.2]∧E e.2 e.1 b o
section
variable{N:NP}{E E':Int->Ex->Nat->Nat->Prop}{R:Int->Rf->Nat->Nat->Prop}{w:World}
theorem Cb{h:Ai}{g sz i off:Nat}{e:Ex}{lt:Int}(c:h.a=some ⟨g,0,none⟩)(d:TE E' #[h.ptr sz i off,.int .i64 lt] (e,lt)):E' lt e g (i*sz+off):=by
 obtain ⟨b,o,h1,h2⟩:=d
 unfold Ai.ptr at h1
 rw[Be c,yB] at h1
 simp only[qn,xC,xL,yY,qv,and_true] at h1
 obtain ⟨rfl,rfl⟩:=h1
 exact h2
theorem LA{s off b o:Nat}{lt:Int}{e:Ex}(h1:(#[.pointer (some ⟨s,off,none⟩),.int .i64 lt]:Array Value)=#[.pointer (some ⟨b,o,none⟩),.int .i64 lt])(h2:E' lt e b o):E' lt e s off:=by
 simp only[qn,xC,xL,yY,qv,and_true] at h1
 obtain ⟨rfl,rfl⟩:=h1
 exact h2
theorem Cy.told{L:Bw}{x:Am}(h:Cy N E R w L x)(c:Az (TE E') (Cd L) (AN x)):Cy N E' R w L x:=by
 unfold Cd AN at c
 obtain ⟨G,c⟩:=Az.split (l:=AB (Ap L.s)) (m:=[(x.season,(0:Int)),(x.cap,0),(x.start,0)]) rfl c
 obtain ⟨H,c⟩:=Az.split (G2 _ (fun i (d:CF)=> [(d.value,1+(i:Int))]) x.lets _ h.lets.1 (fun _ _=>rfl)) c
 obtain ⟨A,c⟩:=Az.split (G2 _ (fun i (d:Br)=> [(d.need,(0:Int))]) x.crops _ h.crops.1 (fun _ _=>rfl)) c
 obtain ⟨F,c⟩:=Az.split (G2 _ (fun i (d:At)=> [(d.delay,(0:Int)),(d.cap,0),(d.bank,0),(d.siphon,0),(d.evap0,0),(d.evap1,0),(d.seep0,0),(d.seep1,0)]) x.reaches _ h.reaches.1 (fun _ _=>rfl)) c
 obtain ⟨J,c⟩:=Az.split (G2 _ (fun i (d:Bd)=> [(d.area,(0:Int))]) x.farms _ h.farms.1 (fun _ _=>rfl)) c
 have q:∀i (hi:i < x.rots.length),(AB (EM L.rots i)++C8 (A4 L i) (A4 L i).n).length=([(x.rots[i].flow,(0:Int)),(x.rots[i].frm,0),(x.rots[i].to,0)]++DD x.rots[i].turns).length:=fun i hi=>by
  obtain ⟨g,g1,a,ty,_,_,_,_,_,_,_,o⟩:=h.rots.2.2 i hi
  rw[yq,yq]
  congr 1
  exact G2 _ (fun k (d:Bv)=> [(d.len,(0:Int))]) x.rots[i].turns _ o.1 (fun _ _=>rfl)
 obtain ⟨M,c⟩:=Az.split (G2 _ (fun i (d:B6)=> [(d.flow,(0:Int)),(d.frm,0),(d.to,0)]++DD d.turns) x.rots _ h.rots.1 q) c
 obtain ⟨P,K⟩:=Az.split (G2 _ (fun i (d:AG)=> [(d.flow,(0:Int)),(d.frm,0),(d.to,0),(d.every,0),(d.len,0)]) x.rights _ h.rights.1 (fun _ _=>rfl)) c
 have B1:=Cg _ (fun i (d:CF)=> [(d.value,1+(i:Int))]) x.lets _ h.lets.1 (fun _ _=>rfl) H
 have B2:=Cg _ (fun i (d:Br)=> [(d.need,(0:Int))]) x.crops _ h.crops.1 (fun _ _=>rfl) A
 have B3:=Cg _ (fun i (d:At)=> [(d.delay,(0:Int)),(d.cap,0),(d.bank,0),(d.siphon,0),(d.evap0,0),(d.evap1,0),(d.seep0,0),(d.seep1,0)]) x.reaches _ h.reaches.1 (fun _ _=>rfl) F
 have B4:=Cg _ (fun i (d:Bd)=> [(d.area,(0:Int))]) x.farms _ h.farms.1 (fun _ _=>rfl) J
 have B5:=Cg _ (fun i (d:B6)=> [(d.flow,(0:Int)),(d.frm,0),(d.to,0)]++DD d.turns) x.rots _ h.rots.1 q M
 have D:=Cg _ (fun i (d:AG)=> [(d.flow,(0:Int)),(d.frm,0),(d.to,0),(d.every,0),(d.len,0)]) x.rights _ h.rights.1 (fun _ _=>rfl) P
 have B7:=Cg _ (fun i (d:BR)=> [(d.due,(0:Int))]) x.duties _ h.duties.1 (fun _ _=>rfl) K
 obtain ⟨⟨b0,o0,B,s0⟩,⟨b1,o1,t1,s1⟩,⟨b2,o2,t2,s2⟩,_⟩:=G
 refine ⟨h.ty,h.name,LA B s0,LA t1 s1,LA t2 s2,h.hlets,h.hcrops,h.hreaches,h.hfarms,h.hrots,h.hrights,h.hduties,⟨h.lets.1,h.lets.2.1,fun i hi=>?_⟩,⟨h.crops.1,h.crops.2.1,fun i hi=>?_⟩,⟨h.reaches.1,h.reaches.2.1,fun i hi=>?_⟩,⟨h.farms.1,h.farms.2.1,fun i hi=>?_⟩,⟨h.rots.1,h.rots.2.1,fun i hi=>?_⟩,⟨h.rights.1,h.rights.2.1,fun i hi=>?_⟩,⟨h.duties.1,h.duties.2.1,fun i hi=>?_⟩⟩
 ·obtain ⟨g,g1,a,ty,b,_⟩:=h.lets.2.2 i hi
  exact ⟨g,g1,a,ty,b,Cb g1 (B1 i hi).1⟩
 ·obtain ⟨g,g1,a,ty,b,_⟩:=h.crops.2.2 i hi
  exact ⟨g,g1,a,ty,b,Cb g1 (B2 i hi).1⟩
 ·obtain ⟨g,g1,a,ty,b,e,_⟩:=h.reaches.2.2 i hi
  obtain ⟨j,p,r,u,v,O,y,z,_⟩:=B3 i hi
  exact ⟨g,g1,a,ty,b,e,Cb g1 j,Cb g1 p,Cb g1 r,Cb g1 u,Cb g1 v,Cb g1 O,Cb g1 y,Cb g1 z⟩
 ·obtain ⟨g,g1,a,ty,b,e,f,_,t⟩:=h.farms.2.2 i hi
  exact ⟨g,g1,a,ty,b,e,f,Cb g1 (B4 i hi).1,t⟩
 ·obtain ⟨g,g1,a,ty,b,e,f,_,_,_,t,o⟩:=h.rots.2.2 i hi
  obtain ⟨j,hk⟩:=Az.split (l:=AB (EM L.rots i)) (m:=[(x.rots[i].flow,(0:Int)),(x.rots[i].frm,0),(x.rots[i].to,0)]) rfl (B5 i hi)
  obtain ⟨j,p,r,_⟩:=j
  have C:=Cg _ (fun k (d:Bv)=> [(d.len,(0:Int))]) x.rots[i].turns _ o.1 (fun _ _=>rfl) hk
  refine ⟨g,g1,a,ty,b,e,f,Cb g1 j,Cb g1 p,Cb g1 r,t,o.1,o.2.1,fun k hk=>?_⟩
  obtain ⟨g,g1,a,ty,b,_⟩:=o.2.2 k hk
  exact ⟨g,g1,a,ty,b,Cb g1 (C k hk).1⟩
 ·obtain ⟨g,g1,a,ty,b,e,f,t,I,_⟩:=h.rights.2.2 i hi
  obtain ⟨j,p,r,u,v,_⟩:=D i hi
  exact ⟨g,g1,a,ty,b,e,f,t,I,Cb g1 j,Cb g1 p,Cb g1 r,Cb g1 u,Cb g1 v⟩
 ·obtain ⟨g,g1,a,ty,b,e,f,_⟩:=h.duties.2.2 i hi
  exact ⟨g,g1,a,ty,b,e,f,Cb g1 (B7 i hi).1⟩
end
def GR(L:Bw)(k b o:Nat)(lt:Int):Prop:=(Cd L)[k]?=some #[.pointer (some ⟨b,o,none⟩),.int .i64 lt]
structure OQ (N:Nat->Prop) (W4:World) (L:Bw) (x:Am):Prop where
 epos:∀j b o lt,GR L j b o lt->Hg W4 b o
 old:∀b,N b->b < W4.heap.size∧∀j o lt,¬ GR L j b o lt
 val:∀j b o lt,GR L j b o lt->∀h:j < (AN x).length,∃c,W4.rangeAt b o c∧AS N W4 (AN x)[j].1 c
structure OR (W4:World) (L:Bw) (x:Am) (k:Nat) (O:Nat->Prop) (W:World):Prop where
 os:W.os=W4.os
 tape:W.tape=W4.tape
 output:W.output=W4.output
 size:W4.heap.size<=W.heap.size
 own:∀b,O b->W4.heap.size<=b
 cells:∀b q,b < W4.heap.size->(∀j o lt,j < k->GR L j b o lt->q≠o+5)->W.cell? ⟨b,q,none⟩=W4.cell? ⟨b,q,none⟩
 ty:∀b t,Ty W4 b t->Ty W b t
 old:∀b,b < W4.heap.size->(∀j o lt,j < k->¬ GR L j b o lt)->W.heap[b]?=W4.heap[b]?
 done:∃M:Nat->Prop,(∀b,M b->¬ O b∧W4.heap.size<=b∧b < W.heap.size)∧∀j b o lt,j < k->GR L j b o lt->∀h:j < (AN x).length,b < W4.heap.size∧∃a c,W.cell? ⟨b,o+5,none⟩=some (.slice a ((AN x)[j].1).args.length c)∧Eh W M a 0 ((AN x)[j].1).args
section
variable{N:NP}{W4 W w':World}{L:Bw}{x:Am}{k b o:Nat}{lt:Int}{O:NP}
theorem OR.start(W4:World)(L:Bw)(x:Am):OR W4 L x 0 (fun _=>False) W4:=
 ⟨rfl,rfl,rfl,yf _,fun _ h=>h.elim,fun _ _ _ _=>rfl,fun _ _ h=>h,fun _ _ _=>rfl,fun _=>False,fun _ h=>h.elim,fun j _ _ _ a=>by omega⟩
theorem OR.stays:E6 (OR W4 L x):=by
 intro k O W A W' h v n p w hk l
 have d:∀b,b < W4.heap.size->W'.heap[b]?=W.heap[b]?:=fun b hb=>hk b (fun e=>by have:=h.own b e;omega) (yr hb h.size)
 obtain ⟨M,m1,s⟩:=h.done
 refine ⟨n.trans h.os,p.trans h.tape,w.trans h.output,yl h.size v,fun b hb=>?_,fun b q hb g=>(Ag (d b hb)).trans (h.cells b q hb g),fun b t hb=>(h.ty b t hb).same (d b hb.lt),fun b hb g=>(d b hb).trans (h.old b hb g),M,fun b hb=>?_,fun j b o lt y m hl=>?_⟩
 ·rcases l b hb with h1|h1
  ·exact h.own b h1
  ·have:=h.size;omega
 ·obtain ⟨n1,n2,z⟩:=m1 b hb
  refine ⟨fun e=>?_,n2,by omega⟩
  rcases l b e with h1|h1
  ·exact n1 h1
  ·omega
 ·obtain ⟨f,a,c,r,u⟩:=s j b o lt y m hl
  exact ⟨f,a,c,(Ag (d b f)).trans r,u.same (fun _ h _=>h) (fun c hc i=>hk c (m1 c hc).1 i)⟩
theorem OR.read(hc:OQ N W4 L x)(h:OR W4 L x k O W)(t:GR L k b o lt)(hl:k < (AN x).length):
  ∃M:NP,(∀c,M c->N c∨(W4.heap.size<=c∧c < W.heap.size))∧∃cs,W.rangeAt b o cs∧AS M W (AN x)[k].1 cs:=by
 obtain ⟨c,c1,c2⟩:=hc.val k b o lt t hl
 obtain ⟨a,cap,rfl,e1,e2,K⟩:=c2.cells
 obtain ⟨r0,r1,r2,G,D,r5⟩:=BJ c1
 have g:=(hc.epos k b o lt t).lt
 have hN:∀c,N c->W.heap[c]?=W4.heap[c]?:=fun c m=>h.old c (hc.old c m).1 (fun j o lt _=>(hc.old c m).2 j o lt)
 have d:∀i,i < 5->W.cell? (aV b (o+i))=W4.cell? (aV b (o+i)):=fun i hi=>h.cells b _ g (fun j w e _ f r=>by
  have:=(hc.epos k b o lt t).uniq (hc.epos j b w e f) (j:=i) (j':=5) (by omega) (by omega) r
  omega)
 obtain ⟨M,m1,H⟩:=h.done
 by_cases s:∃j e,j < k∧GR L j b o e
 ·obtain ⟨j,e,B,f⟩:=s
  have l:j < (AN x).length:=by omega
  obtain ⟨_,P,C,E,F⟩:=H j b o e B f l
  obtain ⟨J,z,p⟩:=hc.val j b o e f l
  have v:J=[iV (AN x)[k].1.op,iV (AN x)[k].1.n,iV (AN x)[k].1.u,.string (AN x)[k].1.rn,iV (AN x)[k].1.ri,.slice a (AN x)[k].1.args.length cap]:=by
   refine zn (by rw[p.len];rfl) fun q I A=>?_
   have h1:=z q _ (yk I)
   have h2:=c1 q _ (yk A)
   rw[h1] at h2
   exact yh h2
  subst v
  have r:(AN x)[j].1=(AN x)[k].1:=Rb _ p c2
  rw[r] at E F
  refine ⟨fun c=>N c∨M c,fun c hc=>hc.imp id (fun y=>(m1 c y).2),_,A6 ((d 0 (by omega)).trans r0) (A6 ((d 1 (by omega)).trans r1) (A6 ((d 2 (by omega)).trans r2) (A6 ((d 3 (by omega)).trans G) (A6 ((d 4 (by omega)).trans D) (Cn E))))),AS.mk' e1 e2 (F.rowV (fun c y _=>.inr y))⟩
 ·have h5:W.cell? (aV b (o+5))=W4.cell? (aV b (o+5)):=h.cells b _ g (fun j w e B f r=>by
   have:=(hc.epos k b o lt t).uniq (hc.epos j b w e f) (j:=5) (j':=5) (by omega) (by omega) r
   obtain ⟨_,rfl⟩:=this
   exact s ⟨j,e,B,f⟩)
  exact ⟨N,fun c hc=>.inl hc,_,A6 ((d 0 (by omega)).trans r0) (A6 ((d 1 (by omega)).trans r1) (A6 ((d 2 (by omega)).trans r2) (A6 ((d 3 (by omega)).trans G) (A6 ((d 4 (by omega)).trans D) (Cn (h5.trans r5)))))),c2.same (fun _ h=>h) hN⟩
theorem OR.next(hc:OQ N W4 L x)(h:OR W4 L x k O W)(p:GR L k b o lt)(hl:k < (AN x).length)(A:∀b,O b->b < W.heap.size)(f:Xp W b o (AN x)[k].1.args w'):OR W4 L x (k+1) O w'∧BL O W w':=by
 obtain ⟨s1,s2,R,a,cap,Q,Y⟩:=f
 have E:=(hc.epos k b o lt p).lt
 have U:=h.size
 have v:∀c,W4.heap.size<=c->c < W.heap.size->w'.heap[c]?=W.heap[c]?:=fun c h1 h2=>s1.block c h2 (fun e=>by cases e;omega)
 obtain ⟨M,m1,S⟩:=h.done
 refine ⟨⟨s1.os.trans h.os,s1.tape.trans h.tape,s1.output.trans h.output,yl U s1.size,h.own,fun c q f m=>?_,fun c t F=>?_,fun c f m=>?_,fun c=>M c∨(W.heap.size<=c∧c < w'.heap.size),fun c l=>?_,fun j b' u n J d w=>?_⟩,s1.size,fun c C=>v c (h.own c C) (A c C)⟩
 ·by_cases g:c=b
  ·subst g
   rw[s2 q (m k o lt (by omega) p),h.cells c q f (fun j o lt J=>m j o lt (by omega))]
  ·rw[Jt s1 (by omega) g,h.cells c q f (fun j o lt J=>m j o lt (by omega))]
 ·by_cases g:c=b
  ·subst g;exact R t (h.ty c t F)
  ·exact (h.ty c t F).same (s1.block c (h.ty c t F).lt (fun e=>g (by cases e;rfl)))
 ·have g:c≠b:=fun e=>m k o lt (by omega) (e▸p)
  rw[s1.block c (by omega) (fun e=>g (by cases e;rfl)),h.old c f (fun j o lt J=>m j o lt (by omega))]
 ·rcases l with l|l
  ·obtain ⟨n1,n2,n3⟩:=m1 c l
   exact ⟨n1,n2,by have:=s1.size;omega⟩
  ·exact ⟨fun C=>by have:=A c C;omega,by omega,l.2⟩
 ·have B:Eh w' (fun c=>M c∨(W.heap.size<=c∧c < w'.heap.size)) a 0 (AN x)[k].1.args:=Y.same (fun c h1 h2=>.inr ⟨h1,h2⟩) (fun _ _ _=>rfl)
  by_cases i:b'=b∧u=o
  ·obtain ⟨rfl,rfl⟩:=i
   obtain ⟨c,c1,c2⟩:=hc.val k b' u lt p hl
   obtain ⟨Z,G,y⟩:=hc.val j b' u n d w
   have D:Z=c:=by
    refine zn (by rw[y.len,c2.len]) fun q m I=>?_
    have h1:=G q _ (yk m)
    have h2:=c1 q _ (yk I)
    rw[h1] at h2
    exact yh h2
   subst D
   have V:(AN x)[j].1=(AN x)[k].1:=Rb _ y c2
   rw[V]
   exact ⟨E,a,cap,Q,B⟩
  ·have H:j < k:=by
    rcases zS j k with P|P
    ·exact P
    ·exfalso
     obtain rfl:j=k:=by omega
     unfold GR at p d
     rw[p] at d
     simp only[yY,qn,xC,xL,qv,and_true] at d
     exact i ⟨d.1.1.symm,d.1.2.symm⟩
   obtain ⟨s,X,r,K,T⟩:=S j b' u n H d w
   refine ⟨s,X,r,?_,T.same (fun c l _=>.inl l) (fun c l f=>v c (m1 c l).2.1 f)⟩
   by_cases z:b'=b
   ·subst z
    rw[s2 _ (fun e=>i ⟨rfl,by omega⟩)];exact K
   ·rw[Jt s1 (by have:=(hc.epos j b' u n d).lt;omega) z];exact K
end
section
variable{N:NP}{E:Int->Ex->Nat->Nat->Prop}{R:Int->Rf->Nat->Nat->Prop}{w W:World}{L:Bw}{x:Am}
theorem Cy.ok(h:Cy N E R w L x):L.Ok:=by
 refine ⟨h.lets.ok,h.crops.ok,h.reaches.ok,h.farms.ok,h.rots.ok,h.rights.ok,h.duties.ok,fun i hi=>?_⟩
 obtain ⟨_,_,_,_,_,_,_,_,_,_,_,a⟩:=h.rots.2.2 i (by rw[<-h.rots.1];exact hi)
 exact a.ok
theorem Cy.heads(h:Cy N E R w L x){Bs:Nat}(d:∀b o,OA w b o->W.cell? ⟨b,o,none⟩=w.cell? ⟨b,o,none⟩)(c:W.cell? ⟨Bs,0,none⟩=some (.pointer (some ⟨L.s,0,none⟩))):Jo L Bs W:=by
 have a:∀o,Gj 35 o=0->W.cell? (aV L.s o)=w.cell? (aV L.s o):=fun o e=>d _ _ ⟨_,h.ty,e⟩
 refine ⟨c,(a _ rfl).trans h.hlets,(a _ rfl).trans h.hcrops,(a _ rfl).trans h.hreaches,(a _ rfl).trans h.hfarms,(a _ rfl).trans h.hrots,(a _ rfl).trans h.hrights,(a _ rfl).trans h.hduties,fun i hi=>?_⟩
 obtain ⟨g,g1,_,ty,_,_,_,_,_,_,hc,_⟩:=h.rots.2.2 i (by rw[<-h.rots.1];exact hi)
 rw[Be g1,yB]
 exact (d _ _ (E9 ty Gk i 22 rfl)).trans hc
theorem NK{cs:LV}(h:Bb N w L cs x):∀v∈cs,v.oneCell'=true:=by
 obtain ⟨c0,c1,c2,rfl,c,g1,b⟩:=h.cells
 refine AL rfl (Ax (Ao c) (Ax (Ao g1) (Ax (Ao b) ?_)))
 intro v a
 simp at a
 rcases a with rfl|rfl|rfl|rfl|rfl|rfl|rfl<;>rfl
theorem IF(h:Az (WJ N E w) (Cd L) (AN x)){j b o:Nat}{lt:Int}(c:GR L j b o lt):N b∧Hg w b o∧∀e:j < (AN x).length,E (AN x)[j].2 (AN x)[j].1 b o:=by
 unfold GR at c
 obtain ⟨hl,d⟩:=yA.1 c
 have a:j < (AN x).length:=by rw[<-h.length];exact hl
 obtain ⟨b',f,h1,h2,h3,h4⟩:=h.get j hl a
 rw[d] at h1
 simp only[qn,xC,xL,yY,qv,and_true] at h1
 obtain ⟨⟨rfl,rfl⟩,_⟩:=h1
 exact ⟨h2,h3,fun _=>h4⟩
theorem TF(h:Az (WJ N E w) (Cd L) (AN x)){j:Nat}(a:j < (Cd L).length):∃b o lt,GR L j b o lt:=by
 obtain ⟨b,o,h1,_⟩:=h.get j a (by rw[<-h.length];exact a)
 exact ⟨b,o,_,by unfold GR;rw[yk a,h1]⟩
theorem V6{W4:World}{O:NP}{B:NP}{G:NP}(h:Az (WJ N E W4) (Cd L) (AN x))(hc:OQ G W4 L x)(v:OR W4 L x (Cd L).length O W)(H:∀b,W4.heap.size<=b->¬ O b->B b):
  Az (TE fun (_:Int) e b o=>∃c,W.rangeAt b o c∧J1 W B e c) (Cd L) (AN x):=by
 have n:∀(l:List (Array Value)) (m:List KD),l.length=m.length->(∀i (h1:i < l.length) (h2:i < m.length),TE (fun (_:Int) e b o=>∃c,W.rangeAt b o c∧J1 W B e c) l[i] m[i])->Az (TE fun (_:Int) e b o=>∃c,W.rangeAt b o c∧J1 W B e c) l m:=by
  intro l
  induction l with
  |nil=>intro m f _;cases m with
   |nil=>trivial
   |cons=>simp at f
  |cons a l ih=>intro m f t;cases m with
   |nil=>simp at f
   |cons e m=>exact ⟨t 0 (by simp) (by simp),ih m (by simpa using f) (fun i h1 h2=>t (i+1) (by simpa using h1) (by simpa using h2))⟩
 refine n _ _ h.length fun i h1 h2=>?_
 obtain ⟨b,o,s,P,J,R⟩:=h.get i h1 h2
 have r:GR L i b o (AN x)[i].2:=by unfold GR;rw[yk h1,s]
 obtain ⟨M,m1,A⟩:=v.done
 obtain ⟨g,a,cap,z,C⟩:=A i b o _ h1 r h2
 obtain ⟨c,c1,c2⟩:=hc.val i b o _ r h2
 obtain ⟨K,u,rfl,e1,e2,I⟩:=c2.cells
 obtain ⟨r0,r1,r2,F,y,r5⟩:=BJ c1
 have d:∀q,q < 5->W.cell? (aV b (o+q))=W4.cell? (aV b (o+q)):=fun q Q=>v.cells b _ g (fun j w p _ k D=>by
  have:=(hc.epos i b o _ r).uniq (hc.epos j b w p k) (j:=q) (j':=5) (by omega) (by omega) D
  omega)
 exact ⟨b,o,s,_,A6 ((d 0 (by omega)).trans r0) (A6 ((d 1 (by omega)).trans r1) (A6 ((d 2 (by omega)).trans r2) (A6 ((d 3 (by omega)).trans F) (A6 ((d 4 (by omega)).trans y) (Cn z))))),J1.mk' e1 e2 (C.same (fun b hb _=>H b (m1 b hb).2.1 (m1 b hb).1) (fun _ _ _=>rfl))⟩
theorem IG{d:NP}{W4:World}{k:Nat}{O:NP}(hc:OQ d W4 L x)(e:OR W4 L x k O W){b q:Nat}{t:Nat}(ty:Ty W4 b t)(a:Gj t q≠1):W.cell? ⟨b,q,none⟩=W4.cell? ⟨b,q,none⟩:=
 e.cells b q ty.lt (fun j o lt _ f c=>by
  obtain ⟨t',h1,h2⟩:=hc.epos j b o lt f
  obtain rfl:=ty.inj h1
  exact a (by rw[c];exact (h2 5 (by omega)).1))
end
end Go.Proofs.Ytghepahgkcigpaa
namespace Go.Proofs.Ytghepahgkcigpaa
open Go.RowKit
attribute [local go_sem] Oper.semAt_some
def ET(B:NP)(w:World)(_:Int)(e:Ex)(b o:Nat):Prop:=∃c,w.rangeAt b o c∧J1 w B e c
theorem Hk{fn:Func}{t:Tmp}{ty:TypeId}{tmps:Array Value}{P:Program}{w:World}{p:Addr}{v:Value}(h:fn.results=#[.cell t ty])(a:tmps.getD t undef=.pointer (some p))(hl:(loadVar ty p).run P w=.ok v w):(results fn tmps).run P w=.ok v w:=by
 rw[yH] at a
 simp[results,h,a,asAddr,hl]
def MW(w:World)(x:Am)(e:Ending)(w':World):Prop:=
 ∃(L:Bw) (cs:LV),e=.returned (.agg cs.toArray)∧cs.length=26∧(∀v∈cs,v.oneCell'=true)∧Below w.heap.size w w'∧L.s=w.heap.size∧w'.rangeAt L.s 0 cs∧Cy (fun g=>w.heap.size<=g∧g≠w.heap.size+1) (ET (fun g=>w.heap.size+2<=g) w') (RV w') w' L x
theorem LD(W:World)(r:Option Nat):W.grownBy W r:=⟨rfl,rfl,rfl,yf _,fun _ _ _=>rfl⟩
theorem LF{W V:World}{r:Option Nat}(h:W.grownBy V r):W.grownBy V.drew r:=⟨h.os,h.tape,h.output,h.size,h.block⟩
theorem Bj{W V U:World}{r:Option Nat}(h:W.grownBy V r)(k:V.grownBy U r):W.grownBy U r:=
 ⟨k.os.trans h.os,k.tape.trans h.tape,k.output.trans h.output,yl h.size k.size,fun b hb a=>(k.block b (yr hb h.size) a).trans (h.block b hb a)⟩
theorem Ch{V U:World}{r:Option Nat}(h:Below V.heap.size V U):V.grownBy U r:=⟨h.os,h.tape,h.output,h.size,fun b hb _=>h.block b hb⟩
def MX{α:Type}:List α->Option Addr->Option Nat
 |[],_=>none
 |_::_,a=>a.map (·.block)
theorem G3{α:Type}{l:List α}{i g:Nat}(h:i < l.length):MX l (some ⟨g,0,none⟩)=some g:=by
 cases l with
 |nil=>simp at h
 |cons x r=>rfl
structure WQ (U:World) (a:Option Addr) (N:Nat->Prop) (w:World) (l:List B6) (hs:List Ai) (wr:World):Prop where
 grown:U.grownBy wr (MX l a)
 len:hs.length<=l.length
 ty:∀g,a=some ⟨g,0,none⟩->∀t,Ty U g t->Ty wr g t
 cells:∀g,a=some ⟨g,0,none⟩->∀q,(∀j,j < hs.length->q≠j*23+22)->wr.cell? ⟨g,q,none⟩=U.cell? ⟨g,q,none⟩
 done:∀j (_:j < hs.length) (_:j < l.length),I4 U.heap.size wr 66 8 (E0 N w) hs[j] l[j].turns∧∀g,a=some ⟨g,0,none⟩->wr.cell? ⟨g,j*23+22,none⟩=some hs[j].v
theorem MY{α:Type}{l:List α}{a:Option Addr}{b:Nat}(h:some b=MX l a):0 < l.length:=by
 cases l with
 |nil=>cases h
 |cons x r=>simp
theorem WQ.next{U:World}{a:Option Addr}{N:NP}{w:World}{l:List B6}{hs:List Ai}{wr V x:World}{g:Nat}{o:Ai}{u:Value}(m:WQ U a N w l hs wr)(hi:hs.length < l.length)(h:a=some ⟨g,0,none⟩)(J:g < U.heap.size)(hb:Below wr.heap.size wr V)
 (hc:V.cell? ⟨g,hs.length*23+22,none⟩=some u)(y:I4 wr.heap.size V 66 8 (E0 N w) o l[hs.length].turns)(D:x=V.setCell ⟨g,hs.length*23+22,none⟩ o.v):WQ U a N w l (hs++[o]) x:=by
 obtain ⟨s1,s2,z,s⟩:=Ak o.v hc
 rw[<-D] at s1 s2 z s
 have H:=m.grown.size
 have I:=hb.size
 have n:V.heap[g]?=wr.heap[g]?:=hb.block g (by omega)
 have f:∀q,V.cell? (aV g q)=wr.cell? (aV g q):=fun q=>by unfold World.cell?;rw[n]
 have k:MX l a=some g:=by rw[h];exact G3 hi
 refine ⟨?_,by simp;omega,fun p c t E=>?_,fun p c q C=>?_,fun j A hl=>?_⟩
 ·rw[k]
  have h0:=m.grown
  rw[k] at h0
  exact Bj (Bj h0 (Ch hb)) s1
 ·rw[h] at c;cases c
  exact z t ((m.ty g h t E).same n)
 ·rw[h] at c;cases c
  rw[s2 q (C hs.length (by simp)),f,m.cells g h q (fun j A=>C j (by simp;omega))]
 ·by_cases r:j=hs.length
  ·subst r
   rw[qf (yf _)]
   simp only[Nat.sub_self,List.getElem_cons_zero]
   exact ⟨I4.of (y.up (fun b B d=>s1.block b d (fun e=>by cases e;omega))).1 H (y.up (fun b B d=>s1.block b d (fun e=>by cases e;omega))).2,fun p c=>by rw[h] at c;cases c;exact s⟩
  ·have i:j < hs.length:=by simp at A;omega
   rw[ql i]
   obtain ⟨F,G⟩:=m.done j i hl
   refine ⟨F.up (fun b B d=>(s1.block b (by omega) (fun e=>by cases e;omega)).trans (hb.block b d)),fun p c=>?_⟩
   rw[h] at c;cases c
   rw[s2 _ (by omega),f,G g h]
theorem TH{N:NP}{w:World}{t:Ai}{cs:LV}{d:B6}(h:Hc N w t cs d):Av N w 8 (E0 N w) t d.turns:=by
 obtain ⟨_,_,_,_,_,_,_,_,_,h⟩:=h
 exact h
theorem TI{N:NP}{w:World}{L:Bw}(cs:LV)(d:B6 × Nat)(h:Hc N w (A4 L d.2) cs d.1):∀v∈cs,v.oneCell'=true:=Jw h
theorem TJ{N:NP}{w W:World}{L:Bw}{l:List B6}(h:L.rots.n=l.length∧l.length<=140737488355328∧∀i (hi:i < l.length),∃b o cs,L.rots.a=some ⟨b,o,none⟩∧N b∧cs.length=23∧w.rangeAt b (o+i*23) cs∧Hc N w (A4 L i) cs l[i])(hb:∀b,N b->W.heap[b]?=w.heap[b]?):
  Av N W 23 (fun cs (d:B6 × Nat)=>Hc N w (A4 L d.2) cs d.1) L.rots l.zipIdx:=by
 obtain ⟨h1,h2,h3⟩:=h
 refine ⟨by rw[zE];exact h1,by rw[zE];exact h2,fun i hi=>?_⟩
 rw[zE] at hi
 obtain ⟨b,o,cs,g1,c,f,e,g⟩:=h3 i hi
 refine ⟨b,o,cs,g1,c,f,A2 e (hb b c),?_⟩
 rw[xg]
 simpa using g
theorem Qs{N:NP}{w:World}{L:Bw}{cs:LV}{x:Am}(h:Bb N w L cs x)(hN:∀b,N b->b < w.heap.size)(fd:Ih x):
  Calls Try.prog 48 #[.agg cs.toArray] w (MW w x):=by
 obtain ⟨c0,c1,c2,rfl,g0,g1,g2⟩:=h.cells
 obtain ⟨a0,p0,rfl,e0⟩:=g0.cells
 obtain ⟨a1,p1,rfl,e1⟩:=g1.cells
 obtain ⟨a2,p2,rfl,e2⟩:=g2.cells
 have HV:=yb h
 have HN:=yb hN
 have b4:=yb fd
 have gc:=yb g0;have ge:=yb g1;have gf:=yb g2
 clear h hN fd g0 g1 g2 e0 e1 e2
 unfold Ai.v
 simp only[z8,zk]
 refine Cv (n:=10) Try.func48 rfl ?_
 simp only[Try.ntmps48,yD,yI,yM,Nat.reduceAdd,Nat.reduceSub,zO,zP,xe,zU,zk,z8]
 refine Ah (A7 ?_)
 go_wp2
 have fm:Below w.heap.size w ((w.alloc (.cells #[.string x.name,iV x.season.op,iV x.season.n,iV x.season.u,.string x.season.rn,iV x.season.ri,.slice a0 x.season.args.length p0,iV x.cap.op,iV x.cap.n,iV x.cap.u,.string x.cap.rn,iV x.cap.ri,.slice a1 x.cap.args.length p1,iV x.start.op,iV x.start.n,iV x.start.u,.string x.start.rn,iV x.start.ri,.slice a2 x.start.args.length p2,.slice L.lets.a L.lets.n L.lets.c,.slice L.crops.a L.crops.n L.crops.c,.slice L.reaches.a L.reaches.n L.reaches.c,.slice L.farms.a L.farms.n L.farms.c,.slice L.rots.a L.rots.n L.rots.c,.slice L.rights.a L.rights.n L.rights.c,.slice L.duties.a L.duties.n L.duties.c] 35)).alloc (.cells #[.string ⟨#[]⟩,iV 0,iV 0,iV 0,.string ⟨#[]⟩,iV 0,.slice none 0 0,iV 0,iV 0,iV 0,.string ⟨#[]⟩,iV 0,.slice none 0 0,iV 0,iV 0,iV 0,.string ⟨#[]⟩,iV 0,.slice none 0 0,.slice none 0 0,.slice none 0 0,.slice none 0 0,.slice none 0 0,.slice none 0 0,.slice none 0 0,.slice none 0 0] 35)):=((yg _ _).alloc (yf _) _).alloc (by simp) _
 have fx:((w.alloc (.cells #[.string x.name,iV x.season.op,iV x.season.n,iV x.season.u,.string x.season.rn,iV x.season.ri,.slice a0 x.season.args.length p0,iV x.cap.op,iV x.cap.n,iV x.cap.u,.string x.cap.rn,iV x.cap.ri,.slice a1 x.cap.args.length p1,iV x.start.op,iV x.start.n,iV x.start.u,.string x.start.rn,iV x.start.ri,.slice a2 x.start.args.length p2,.slice L.lets.a L.lets.n L.lets.c,.slice L.crops.a L.crops.n L.crops.c,.slice L.reaches.a L.reaches.n L.reaches.c,.slice L.farms.a L.farms.n L.farms.c,.slice L.rots.a L.rots.n L.rots.c,.slice L.rights.a L.rights.n L.rights.c,.slice L.duties.a L.duties.n L.duties.c] 35)).alloc (.cells #[.string ⟨#[]⟩,iV 0,iV 0,iV 0,.string ⟨#[]⟩,iV 0,.slice none 0 0,iV 0,iV 0,iV 0,.string ⟨#[]⟩,iV 0,.slice none 0 0,iV 0,iV 0,iV 0,.string ⟨#[]⟩,iV 0,.slice none 0 0,.slice none 0 0,.slice none 0 0,.slice none 0 0,.slice none 0 0,.slice none 0 0,.slice none 0 0,.slice none 0 0] 35)).heap[w.heap.size]?=some (.cells #[.string x.name,iV x.season.op,iV x.season.n,iV x.season.u,.string x.season.rn,iV x.season.ri,.slice a0 x.season.args.length p0,iV x.cap.op,iV x.cap.n,iV x.cap.u,.string x.cap.rn,iV x.cap.ri,.slice a1 x.cap.args.length p1,iV x.start.op,iV x.start.n,iV x.start.u,.string x.start.rn,iV x.start.ri,.slice a2 x.start.args.length p2,.slice L.lets.a L.lets.n L.lets.c,.slice L.crops.a L.crops.n L.crops.c,.slice L.reaches.a L.reaches.n L.reaches.c,.slice L.farms.a L.farms.n L.farms.c,.slice L.rots.a L.rots.n L.rots.c,.slice L.rights.a L.rights.n L.rights.c,.slice L.duties.a L.duties.n L.duties.c] 35 (0,0)):=(yF _ _ _ (by simp)).trans (World.alloc_heap_new w _)
 have ek:((w.alloc (.cells #[.string x.name,iV x.season.op,iV x.season.n,iV x.season.u,.string x.season.rn,iV x.season.ri,.slice a0 x.season.args.length p0,iV x.cap.op,iV x.cap.n,iV x.cap.u,.string x.cap.rn,iV x.cap.ri,.slice a1 x.cap.args.length p1,iV x.start.op,iV x.start.n,iV x.start.u,.string x.start.rn,iV x.start.ri,.slice a2 x.start.args.length p2,.slice L.lets.a L.lets.n L.lets.c,.slice L.crops.a L.crops.n L.crops.c,.slice L.reaches.a L.reaches.n L.reaches.c,.slice L.farms.a L.farms.n L.farms.c,.slice L.rots.a L.rots.n L.rots.c,.slice L.rights.a L.rights.n L.rights.c,.slice L.duties.a L.duties.n L.duties.c] 35)).alloc (.cells #[.string ⟨#[]⟩,iV 0,iV 0,iV 0,.string ⟨#[]⟩,iV 0,.slice none 0 0,iV 0,iV 0,iV 0,.string ⟨#[]⟩,iV 0,.slice none 0 0,iV 0,iV 0,iV 0,.string ⟨#[]⟩,iV 0,.slice none 0 0,.slice none 0 0,.slice none 0 0,.slice none 0 0,.slice none 0 0,.slice none 0 0,.slice none 0 0,.slice none 0 0] 35)).heap[w.heap.size+1]?=some (.cells #[.string ⟨#[]⟩,iV 0,iV 0,iV 0,.string ⟨#[]⟩,iV 0,.slice none 0 0,iV 0,iV 0,iV 0,.string ⟨#[]⟩,iV 0,.slice none 0 0,iV 0,iV 0,iV 0,.string ⟨#[]⟩,iV 0,.slice none 0 0,.slice none 0 0,.slice none 0 0,.slice none 0 0,.slice none 0 0,.slice none 0 0,.slice none 0 0,.slice none 0 0] 35 (0,0)):=by
  have:=World.alloc_heap_new (w.alloc (.cells #[.string x.name,iV x.season.op,iV x.season.n,iV x.season.u,.string x.season.rn,iV x.season.ri,.slice a0 x.season.args.length p0,iV x.cap.op,iV x.cap.n,iV x.cap.u,.string x.cap.rn,iV x.cap.ri,.slice a1 x.cap.args.length p1,iV x.start.op,iV x.start.n,iV x.start.u,.string x.start.rn,iV x.start.ri,.slice a2 x.start.args.length p2,.slice L.lets.a L.lets.n L.lets.c,.slice L.crops.a L.crops.n L.crops.c,.slice L.reaches.a L.reaches.n L.reaches.c,.slice L.farms.a L.farms.n L.farms.c,.slice L.rots.a L.rots.n L.rots.c,.slice L.rights.a L.rights.n L.rights.c,.slice L.duties.a L.duties.n L.duties.c] 35)) (.cells #[.string ⟨#[]⟩,iV 0,iV 0,iV 0,.string ⟨#[]⟩,iV 0,.slice none 0 0,iV 0,iV 0,iV 0,.string ⟨#[]⟩,iV 0,.slice none 0 0,iV 0,iV 0,iV 0,.string ⟨#[]⟩,iV 0,.slice none 0 0,.slice none 0 0,.slice none 0 0,.slice none 0 0,.slice none 0 0,.slice none 0 0,.slice none 0 0,.slice none 0 0] 35)
  rwa [zB] at this
 have eh:((w.alloc (.cells #[.string x.name,iV x.season.op,iV x.season.n,iV x.season.u,.string x.season.rn,iV x.season.ri,.slice a0 x.season.args.length p0,iV x.cap.op,iV x.cap.n,iV x.cap.u,.string x.cap.rn,iV x.cap.ri,.slice a1 x.cap.args.length p1,iV x.start.op,iV x.start.n,iV x.start.u,.string x.start.rn,iV x.start.ri,.slice a2 x.start.args.length p2,.slice L.lets.a L.lets.n L.lets.c,.slice L.crops.a L.crops.n L.crops.c,.slice L.reaches.a L.reaches.n L.reaches.c,.slice L.farms.a L.farms.n L.farms.c,.slice L.rots.a L.rots.n L.rots.c,.slice L.rights.a L.rights.n L.rights.c,.slice L.duties.a L.duties.n L.duties.c] 35)).alloc (.cells #[.string ⟨#[]⟩,iV 0,iV 0,iV 0,.string ⟨#[]⟩,iV 0,.slice none 0 0,iV 0,iV 0,iV 0,.string ⟨#[]⟩,iV 0,.slice none 0 0,iV 0,iV 0,iV 0,.string ⟨#[]⟩,iV 0,.slice none 0 0,.slice none 0 0,.slice none 0 0,.slice none 0 0,.slice none 0 0,.slice none 0 0,.slice none 0 0,.slice none 0 0] 35)).heap.size=w.heap.size+2:=by simp
 generalize (w.alloc (.cells #[.string x.name,iV x.season.op,iV x.season.n,iV x.season.u,.string x.season.rn,iV x.season.ri,.slice a0 x.season.args.length p0,iV x.cap.op,iV x.cap.n,iV x.cap.u,.string x.cap.rn,iV x.cap.ri,.slice a1 x.cap.args.length p1,iV x.start.op,iV x.start.n,iV x.start.u,.string x.start.rn,iV x.start.ri,.slice a2 x.start.args.length p2,.slice L.lets.a L.lets.n L.lets.c,.slice L.crops.a L.crops.n L.crops.c,.slice L.reaches.a L.reaches.n L.reaches.c,.slice L.farms.a L.farms.n L.farms.c,.slice L.rots.a L.rots.n L.rots.c,.slice L.rights.a L.rights.n L.rights.c,.slice L.duties.a L.duties.n L.duties.c] 35)).alloc (.cells #[.string ⟨#[]⟩,iV 0,iV 0,iV 0,.string ⟨#[]⟩,iV 0,.slice none 0 0,iV 0,iV 0,iV 0,.string ⟨#[]⟩,iV 0,.slice none 0 0,iV 0,iV 0,iV 0,.string ⟨#[]⟩,iV 0,.slice none 0 0,.slice none 0 0,.slice none 0 0,.slice none 0 0,.slice none 0 0,.slice none 0 0,.slice none 0 0,.slice none 0 0] 35)=W1 at*
 have cx:=yb fm;have gr:=yb fx;have gd:=yb ek;have aa:=yb eh
 clear fm fx ek eh
 have bw:Hid (∀W,W1.grownBy W (some w.heap.size)->∀b,N b->W.heap[b]?=w.heap[b]?):=yb (fun W hW b hb=>(hW.block b (by have:=HN.o b hb;have:=aa.o;omega) (fun e=>by cases e;have:=HN.o _ hb;omega)).trans (cx.o.block b (HN.o b hb)))
 have bp:Hid (∀W,W1.grownBy W (some w.heap.size)->∀b,N b->b < W.heap.size):=yb (fun W hW b hb=>by have:=HN.o b hb;have:=aa.o;have:=hW.size;omega)
 have fu:Hid (W1.grownBy W1 (some w.heap.size)):=yb (LD _ _)
 refine Ah (A7 ?_)
 refine wp_region_noPanic ?_
 have fz:W1.drew.heap[w.heap.size]?=some (.cells #[.string x.name,iV x.season.op,iV x.season.n,iV x.season.u,.string x.season.rn,iV x.season.ri,.slice a0 x.season.args.length p0,iV x.cap.op,iV x.cap.n,iV x.cap.u,.string x.cap.rn,iV x.cap.ri,.slice a1 x.cap.args.length p1,iV x.start.op,iV x.start.n,iV x.start.u,.string x.start.rn,iV x.start.ri,.slice a2 x.start.args.length p2,.slice L.lets.a L.lets.n L.lets.c,.slice L.crops.a L.crops.n L.crops.c,.slice L.reaches.a L.reaches.n L.reaches.c,.slice L.farms.a L.farms.n L.farms.c,.slice L.rots.a L.rots.n L.rots.c,.slice L.rights.a L.rights.n L.rights.c,.slice L.duties.a L.duties.n L.duties.c] 35 (0,0)):=gr.o
 have bu:=yb fz
 clear fz
 refine BZ (by kernel_rfl) (fun W=>W.heap[w.heap.size]?=some (.cells #[.string x.name,iV x.season.op,iV x.season.n,iV x.season.u,.string x.season.rn,iV x.season.ri,.slice a0 x.season.args.length p0,iV x.cap.op,iV x.cap.n,iV x.cap.u,.string x.cap.rn,iV x.cap.ri,.slice a1 x.cap.args.length p1,iV x.start.op,iV x.start.n,iV x.start.u,.string x.start.rn,iV x.start.ri,.slice a2 x.start.args.length p2,.slice L.lets.a L.lets.n L.lets.c,.slice L.crops.a L.crops.n L.crops.c,.slice L.reaches.a L.reaches.n L.reaches.c,.slice L.farms.a L.farms.n L.farms.c,.slice L.rots.a L.rots.n L.rots.c,.slice L.rights.a L.rights.n L.rights.c,.slice L.duties.a L.duties.n L.duties.c] 35 (0,0))) 13 ?_
 refine A1 (i:=0) (v:=pV w.heap.size 19) rfl (by kernel_rfl) (by kernel_rfl) (by kernel_rfl) (fun _ _ _ h=>h) (by kernel_rfl) (Or.inl ⟨by rfl,?_⟩) (fun _=>bu.o) ?_
 ·intro w _;go_simp
 refine Aj (i:=1) (v:=.slice L.lets.a L.lets.n L.lets.c) rfl (by kernel_rfl) (by kernel_rfl) (by kernel_rfl) (fun _ _ _ h=>h) (by kernel_rfl) (Or.inl ⟨by rfl,?_⟩) bu.o ?_
 ·intro W hW
  have hc:W.cell? (aV w.heap.size 19)=some (.slice L.lets.a L.lets.n L.lets.c):=by simp only[World.cell?,hW];rfl
  clear hW
  go_simp
 refine A1 (i:=3) (v:=pV w.heap.size 20) rfl (by kernel_rfl) (by kernel_rfl) (by kernel_rfl) (fun _ _ _ h=>h) (by kernel_rfl) (Or.inl ⟨by rfl,?_⟩) (fun _=>bu.o) ?_
 ·intro w _;go_simp
 refine Aj (i:=4) (v:=.slice L.crops.a L.crops.n L.crops.c) rfl (by kernel_rfl) (by kernel_rfl) (by kernel_rfl) (fun _ _ _ h=>h) (by kernel_rfl) (Or.inl ⟨by rfl,?_⟩) bu.o ?_
 ·intro W hW
  have hc:W.cell? (aV w.heap.size 20)=some (.slice L.crops.a L.crops.n L.crops.c):=by simp only[World.cell?,hW];rfl
  clear hW
  go_simp
 refine A1 (i:=6) (v:=pV w.heap.size 21) rfl (by kernel_rfl) (by kernel_rfl) (by kernel_rfl) (fun _ _ _ h=>h) (by kernel_rfl) (Or.inl ⟨by rfl,?_⟩) (fun _=>bu.o) ?_
 ·intro w _;go_simp
 refine Aj (i:=7) (v:=.slice L.reaches.a L.reaches.n L.reaches.c) rfl (by kernel_rfl) (by kernel_rfl) (by kernel_rfl) (fun _ _ _ h=>h) (by kernel_rfl) (Or.inl ⟨by rfl,?_⟩) bu.o ?_
 ·intro W hW
  have hc:W.cell? (aV w.heap.size 21)=some (.slice L.reaches.a L.reaches.n L.reaches.c):=by simp only[World.cell?,hW];rfl
  clear hW
  go_simp
 refine A1 (i:=9) (v:=pV w.heap.size 22) rfl (by kernel_rfl) (by kernel_rfl) (by kernel_rfl) (fun _ _ _ h=>h) (by kernel_rfl) (Or.inl ⟨by rfl,?_⟩) (fun _=>bu.o) ?_
 ·intro w _;go_simp
 refine Aj (i:=10) (v:=.slice L.farms.a L.farms.n L.farms.c) rfl (by kernel_rfl) (by kernel_rfl) (by kernel_rfl) (fun _ _ _ h=>h) (by kernel_rfl) (Or.inl ⟨by rfl,?_⟩) bu.o ?_
 ·intro W hW
  have hc:W.cell? (aV w.heap.size 22)=some (.slice L.farms.a L.farms.n L.farms.c):=by simp only[World.cell?,hW];rfl
  clear hW
  go_simp
 have bd:Hid (W1.grownBy W1.drew (some w.heap.size)):=yb (LF fu.o)
 refine A0 (i:=2) (by kernel_rfl) rfl (fun K hK=>?_)
 go_simp
 refine (Sc (HV.o.lets.same (fun _ h=>h) (bw.o _ bd.o) (fun _ _ h=>h)) (bp.o _ bd.o) R9 b4.o.lets).mono ?_
 rintro e e4 ⟨⟨Z,a7,a6⟩,rfl,bt,bv,av⟩
 rw[show Ai.v ⟨Z,a7,a6⟩=Value.slice Z a7 a6 from rfl]
 simp only at bt av
 have bn:Hid (W1.grownBy e4 (some w.heap.size)):=yb (Bj bd.o (Ch bv))
 have d1:Hid (e4.heap[w.heap.size]?=some (.cells #[.string x.name,iV x.season.op,iV x.season.n,iV x.season.u,.string x.season.rn,iV x.season.ri,.slice a0 x.season.args.length p0,iV x.cap.op,iV x.cap.n,iV x.cap.u,.string x.cap.rn,iV x.cap.ri,.slice a1 x.cap.args.length p1,iV x.start.op,iV x.start.n,iV x.start.u,.string x.start.rn,iV x.start.ri,.slice a2 x.start.args.length p2,.slice L.lets.a L.lets.n L.lets.c,.slice L.crops.a L.crops.n L.crops.c,.slice L.reaches.a L.reaches.n L.reaches.c,.slice L.farms.a L.farms.n L.farms.c,.slice L.rots.a L.rots.n L.rots.c,.slice L.rights.a L.rights.n L.rights.c,.slice L.duties.a L.duties.n L.duties.c] 35 (0,0))):=yb ((bv.block _ (by have:=bd.o.size;have:=aa.o;omega)).trans bu.o)
 have E:Hid (I4 W1.heap.size e4 55 7 (GB N w) ⟨Z,a7,a6⟩ x.lets):=yb (I4.of bt (by exact bd.o.size) av)
 clear bt bv av
 refine hK.o _ _ (fun _=>d1.o) ?_
 clear hK K
 refine A0 (i:=5) (by kernel_rfl) rfl (fun K hK=>?_)
 go_simp
 refine (Qd (HV.o.crops.same (fun _ h=>h) (bw.o _ bn.o) (fun _ _ h=>h)) (bp.o _ bn.o) OB b4.o.crops).mono ?_
 rintro e e6 ⟨⟨H,F,G⟩,rfl,b9,au,ar⟩
 rw[show Ai.v ⟨H,F,G⟩=Value.slice H F G from rfl]
 simp only at b9 ar
 have bj:Hid (W1.grownBy e6 (some w.heap.size)):=yb (Bj bn.o (Ch au))
 have co:Hid (e6.heap[w.heap.size]?=some (.cells #[.string x.name,iV x.season.op,iV x.season.n,iV x.season.u,.string x.season.rn,iV x.season.ri,.slice a0 x.season.args.length p0,iV x.cap.op,iV x.cap.n,iV x.cap.u,.string x.cap.rn,iV x.cap.ri,.slice a1 x.cap.args.length p1,iV x.start.op,iV x.start.n,iV x.start.u,.string x.start.rn,iV x.start.ri,.slice a2 x.start.args.length p2,.slice L.lets.a L.lets.n L.lets.c,.slice L.crops.a L.crops.n L.crops.c,.slice L.reaches.a L.reaches.n L.reaches.c,.slice L.farms.a L.farms.n L.farms.c,.slice L.rots.a L.rots.n L.rots.c,.slice L.rights.a L.rights.n L.rights.c,.slice L.duties.a L.duties.n L.duties.c] 35 (0,0))):=yb ((au.block _ (by have:=bn.o.size;have:=aa.o;omega)).trans d1.o)
 replace E:=yb (E.o.up (fun b _ f=>au.block b f))
 have C:Hid (I4 W1.heap.size e6 57 7 (DZ N w) ⟨H,F,G⟩ x.crops):=yb (I4.of b9 (by exact bn.o.size) ar)
 clear b9 au ar
 refine hK.o _ _ (fun _=>co.o) ?_
 clear hK K
 refine A0 (i:=8) (by kernel_rfl) rfl (fun K hK=>?_)
 go_simp
 refine (OE (HV.o.reaches.same (fun _ h=>h) (bw.o _ bj.o) (fun _ _ h=>h)) (bp.o _ bj.o) K6 b4.o.reaches).mono ?_
 rintro e ef ⟨⟨m,y,l⟩,rfl,ao,ah,ak⟩
 rw[show Ai.v ⟨m,y,l⟩=Value.slice m y l from rfl]
 simp only at ao ak
 have ba:Hid (W1.grownBy ef (some w.heap.size)):=yb (Bj bj.o (Ch ah))
 have d2:Hid (ef.heap[w.heap.size]?=some (.cells #[.string x.name,iV x.season.op,iV x.season.n,iV x.season.u,.string x.season.rn,iV x.season.ri,.slice a0 x.season.args.length p0,iV x.cap.op,iV x.cap.n,iV x.cap.u,.string x.cap.rn,iV x.cap.ri,.slice a1 x.cap.args.length p1,iV x.start.op,iV x.start.n,iV x.start.u,.string x.start.rn,iV x.start.ri,.slice a2 x.start.args.length p2,.slice L.lets.a L.lets.n L.lets.c,.slice L.crops.a L.crops.n L.crops.c,.slice L.reaches.a L.reaches.n L.reaches.c,.slice L.farms.a L.farms.n L.farms.c,.slice L.rots.a L.rots.n L.rots.c,.slice L.rights.a L.rights.n L.rights.c,.slice L.duties.a L.duties.n L.duties.c] 35 (0,0))):=yb ((ah.block _ (by have:=bj.o.size;have:=aa.o;omega)).trans co.o)
 replace E:=yb (E.o.up (fun b _ f=>ah.block b f))
 replace C:=yb (C.o.up (fun b _ f=>ah.block b f))
 have A:Hid (I4 W1.heap.size ef 51 51 (CT N w) ⟨m,y,l⟩ x.reaches):=yb (I4.of ao (by exact bj.o.size) ak)
 clear ao ah ak
 refine hK.o _ _ (fun _=>d2.o) ?_
 clear hK K
 refine A0 (i:=11) (by kernel_rfl) rfl (fun K hK=>?_)
 go_simp
 refine (Qe (HV.o.farms.same (fun _ h=>h) (bw.o _ ba.o) (fun _ _ h=>h)) (bp.o _ ba.o) OC b4.o.farms).mono ?_
 rintro e c6 ⟨⟨S,nfarms,T⟩,rfl,bm,aj,ap⟩
 rw[show Ai.v ⟨S,nfarms,T⟩=Value.slice S nfarms T from rfl]
 simp only at bm ap
 have dv:Hid (W1.grownBy c6 (some w.heap.size)):=yb (Bj ba.o (Ch aj))
 have az:Hid (c6.heap[w.heap.size]?=some (.cells #[.string x.name,iV x.season.op,iV x.season.n,iV x.season.u,.string x.season.rn,iV x.season.ri,.slice a0 x.season.args.length p0,iV x.cap.op,iV x.cap.n,iV x.cap.u,.string x.cap.rn,iV x.cap.ri,.slice a1 x.cap.args.length p1,iV x.start.op,iV x.start.n,iV x.start.u,.string x.start.rn,iV x.start.ri,.slice a2 x.start.args.length p2,.slice L.lets.a L.lets.n L.lets.c,.slice L.crops.a L.crops.n L.crops.c,.slice L.reaches.a L.reaches.n L.reaches.c,.slice L.farms.a L.farms.n L.farms.c,.slice L.rots.a L.rots.n L.rots.c,.slice L.rights.a L.rights.n L.rights.c,.slice L.duties.a L.duties.n L.duties.c] 35 (0,0))):=yb ((aj.block _ (by have:=ba.o.size;have:=aa.o;omega)).trans d2.o)
 replace E:=yb (E.o.up (fun b _ f=>aj.block b f))
 replace C:=yb (C.o.up (fun b _ f=>aj.block b f))
 replace A:=yb (A.o.up (fun b _ f=>aj.block b f))
 have X:Hid (I4 W1.heap.size c6 59 12 (E7 N w) ⟨S,nfarms,T⟩ x.farms):=yb (I4.of bm (by exact ba.o.size) ap)
 clear bm aj ap
 refine hK.o _ _ (fun _=>az.o) ?_
 clear hK K
 refine A1 (i:=12) (v:=pV w.heap.size 19) rfl (by kernel_rfl) (by kernel_rfl) (by kernel_rfl) (fun _ _ _ h=>h) (by kernel_rfl) (Or.inl ⟨by rfl,?_⟩) (by first|exact fun _=>az.o|(intro h;cases h)) ?_
 ·intro w _;go_simp
 refine A0 (i:=13) (by kernel_rfl) rfl (fun K hK=>?_)
 have hc:c6.cell? (aV w.heap.size 19)=some (.slice L.lets.a L.lets.n L.lets.c):=by simp only[World.cell?,az.o];rfl
 have hf:c6.frozen? (aV w.heap.size 19)=false:=by simp[World.frozen?,az.o]
 go_simp
 have c9:Hid ((c6.setCell (aV w.heap.size 19) (.slice Z a7 a6)).heap[w.heap.size]?=some (.cells #[.string x.name,iV x.season.op,iV x.season.n,iV x.season.u,.string x.season.rn,iV x.season.ri,.slice a0 x.season.args.length p0,iV x.cap.op,iV x.cap.n,iV x.cap.u,.string x.cap.rn,iV x.cap.ri,.slice a1 x.cap.args.length p1,iV x.start.op,iV x.start.n,iV x.start.u,.string x.start.rn,iV x.start.ri,.slice a2 x.start.args.length p2,.slice Z a7 a6,.slice L.crops.a L.crops.n L.crops.c,.slice L.reaches.a L.reaches.n L.reaches.c,.slice L.farms.a L.farms.n L.farms.c,.slice L.rots.a L.rots.n L.rots.c,.slice L.rights.a L.rights.n L.rights.c,.slice L.duties.a L.duties.n L.duties.c] 35 (0,0))):=yb (by
  have:=z7 c6 w.heap.size 19 _ _ (.slice Z a7 a6) az.o
  rw[this];rfl)
 replace E:=yb (E.o.up (fun b hB f=>(Ak (.slice Z a7 a6) hc).1.block b f (fun e=>by cases e;have:=aa.o;omega)))
 replace C:=yb (C.o.up (fun b hB f=>(Ak (.slice Z a7 a6) hc).1.block b f (fun e=>by cases e;have:=aa.o;omega)))
 replace A:=yb (A.o.up (fun b hB f=>(Ak (.slice Z a7 a6) hc).1.block b f (fun e=>by cases e;have:=aa.o;omega)))
 replace X:=yb (X.o.up (fun b hB f=>(Ak (.slice Z a7 a6) hc).1.block b f (fun e=>by cases e;have:=aa.o;omega)))
 have f1:=yb (Bj dv.o (Ak (.slice Z a7 a6) hc).1)
 clear hc hf
 generalize c6.setCell (aV w.heap.size 19) (.slice Z a7 a6)=cp at*
 refine hK.o _ _ (by first|(intro h;cases h;done)|exact fun _=>az.o) ?_
 clear hK K
 refine A1 (i:=14) (v:=pV w.heap.size 20) rfl (by kernel_rfl) (by kernel_rfl) (by kernel_rfl) (fun _ _ _ h=>h) (by kernel_rfl) (Or.inl ⟨by rfl,?_⟩) (by first|exact fun _=>c9.o|(intro h;cases h)) ?_
 ·intro w _;go_simp
 refine A0 (i:=15) (by kernel_rfl) rfl (fun K hK=>?_)
 have hc:cp.cell? (aV w.heap.size 20)=some (.slice L.crops.a L.crops.n L.crops.c):=by simp only[World.cell?,c9.o];rfl
 have hf:cp.frozen? (aV w.heap.size 20)=false:=by simp[World.frozen?,c9.o]
 go_simp
 have c5:Hid ((cp.setCell (aV w.heap.size 20) (.slice H F G)).heap[w.heap.size]?=some (.cells #[.string x.name,iV x.season.op,iV x.season.n,iV x.season.u,.string x.season.rn,iV x.season.ri,.slice a0 x.season.args.length p0,iV x.cap.op,iV x.cap.n,iV x.cap.u,.string x.cap.rn,iV x.cap.ri,.slice a1 x.cap.args.length p1,iV x.start.op,iV x.start.n,iV x.start.u,.string x.start.rn,iV x.start.ri,.slice a2 x.start.args.length p2,.slice Z a7 a6,.slice H F G,.slice L.reaches.a L.reaches.n L.reaches.c,.slice L.farms.a L.farms.n L.farms.c,.slice L.rots.a L.rots.n L.rots.c,.slice L.rights.a L.rights.n L.rights.c,.slice L.duties.a L.duties.n L.duties.c] 35 (0,0))):=yb (by
  have:=z7 cp w.heap.size 20 _ _ (.slice H F G) c9.o
  rw[this];rfl)
 replace E:=yb (E.o.up (fun b hB f=>(Ak (.slice H F G) hc).1.block b f (fun e=>by cases e;have:=aa.o;omega)))
 replace C:=yb (C.o.up (fun b hB f=>(Ak (.slice H F G) hc).1.block b f (fun e=>by cases e;have:=aa.o;omega)))
 replace A:=yb (A.o.up (fun b hB f=>(Ak (.slice H F G) hc).1.block b f (fun e=>by cases e;have:=aa.o;omega)))
 replace X:=yb (X.o.up (fun b hB f=>(Ak (.slice H F G) hc).1.block b f (fun e=>by cases e;have:=aa.o;omega)))
 have f9:=yb (Bj f1.o (Ak (.slice H F G) hc).1)
 clear hc hf
 generalize cp.setCell (aV w.heap.size 20) (.slice H F G)=cu at*
 refine hK.o _ _ (by first|(intro h;cases h;done)|exact fun _=>c9.o) ?_
 clear hK K
 refine A1 (i:=16) (v:=pV w.heap.size 21) rfl (by kernel_rfl) (by kernel_rfl) (by kernel_rfl) (fun _ _ _ h=>h) (by kernel_rfl) (Or.inl ⟨by rfl,?_⟩) (by first|exact fun _=>c5.o|(intro h;cases h)) ?_
 ·intro w _;go_simp
 refine A0 (i:=17) (by kernel_rfl) rfl (fun K hK=>?_)
 have hc:cu.cell? (aV w.heap.size 21)=some (.slice L.reaches.a L.reaches.n L.reaches.c):=by simp only[World.cell?,c5.o];rfl
 have hf:cu.frozen? (aV w.heap.size 21)=false:=by simp[World.frozen?,c5.o]
 go_simp
 have c7:Hid ((cu.setCell (aV w.heap.size 21) (.slice m y l)).heap[w.heap.size]?=some (.cells #[.string x.name,iV x.season.op,iV x.season.n,iV x.season.u,.string x.season.rn,iV x.season.ri,.slice a0 x.season.args.length p0,iV x.cap.op,iV x.cap.n,iV x.cap.u,.string x.cap.rn,iV x.cap.ri,.slice a1 x.cap.args.length p1,iV x.start.op,iV x.start.n,iV x.start.u,.string x.start.rn,iV x.start.ri,.slice a2 x.start.args.length p2,.slice Z a7 a6,.slice H F G,.slice m y l,.slice L.farms.a L.farms.n L.farms.c,.slice L.rots.a L.rots.n L.rots.c,.slice L.rights.a L.rights.n L.rights.c,.slice L.duties.a L.duties.n L.duties.c] 35 (0,0))):=yb (by
  have:=z7 cu w.heap.size 21 _ _ (.slice m y l) c5.o
  rw[this];rfl)
 replace E:=yb (E.o.up (fun b hB f=>(Ak (.slice m y l) hc).1.block b f (fun e=>by cases e;have:=aa.o;omega)))
 replace C:=yb (C.o.up (fun b hB f=>(Ak (.slice m y l) hc).1.block b f (fun e=>by cases e;have:=aa.o;omega)))
 replace A:=yb (A.o.up (fun b hB f=>(Ak (.slice m y l) hc).1.block b f (fun e=>by cases e;have:=aa.o;omega)))
 replace X:=yb (X.o.up (fun b hB f=>(Ak (.slice m y l) hc).1.block b f (fun e=>by cases e;have:=aa.o;omega)))
 have f5:=yb (Bj f9.o (Ak (.slice m y l) hc).1)
 clear hc hf
 generalize cu.setCell (aV w.heap.size 21) (.slice m y l)=d4 at*
 refine hK.o _ _ (by first|(intro h;cases h;done)|exact fun _=>c5.o) ?_
 clear hK K
 refine A1 (i:=18) (v:=pV w.heap.size 22) rfl (by kernel_rfl) (by kernel_rfl) (by kernel_rfl) (fun _ _ _ h=>h) (by kernel_rfl) (Or.inl ⟨by rfl,?_⟩) (by first|exact fun _=>c7.o|(intro h;cases h)) ?_
 ·intro w _;go_simp
 refine A0 (i:=19) (by kernel_rfl) rfl (fun K hK=>?_)
 have hc:d4.cell? (aV w.heap.size 22)=some (.slice L.farms.a L.farms.n L.farms.c):=by simp only[World.cell?,c7.o];rfl
 have hf:d4.frozen? (aV w.heap.size 22)=false:=by simp[World.frozen?,c7.o]
 go_simp
 have ff:Hid ((d4.setCell (aV w.heap.size 22) (.slice S nfarms T)).heap[w.heap.size]?=some (.cells #[.string x.name,iV x.season.op,iV x.season.n,iV x.season.u,.string x.season.rn,iV x.season.ri,.slice a0 x.season.args.length p0,iV x.cap.op,iV x.cap.n,iV x.cap.u,.string x.cap.rn,iV x.cap.ri,.slice a1 x.cap.args.length p1,iV x.start.op,iV x.start.n,iV x.start.u,.string x.start.rn,iV x.start.ri,.slice a2 x.start.args.length p2,.slice Z a7 a6,.slice H F G,.slice m y l,.slice S nfarms T,.slice L.rots.a L.rots.n L.rots.c,.slice L.rights.a L.rights.n L.rights.c,.slice L.duties.a L.duties.n L.duties.c] 35 (0,0))):=yb (by
  have:=z7 d4 w.heap.size 22 _ _ (.slice S nfarms T) c7.o
  rw[this];rfl)
 replace E:=yb (E.o.up (fun b hB f=>(Ak (.slice S nfarms T) hc).1.block b f (fun e=>by cases e;have:=aa.o;omega)))
 replace C:=yb (C.o.up (fun b hB f=>(Ak (.slice S nfarms T) hc).1.block b f (fun e=>by cases e;have:=aa.o;omega)))
 replace A:=yb (A.o.up (fun b hB f=>(Ak (.slice S nfarms T) hc).1.block b f (fun e=>by cases e;have:=aa.o;omega)))
 replace X:=yb (X.o.up (fun b hB f=>(Ak (.slice S nfarms T) hc).1.block b f (fun e=>by cases e;have:=aa.o;omega)))
 have f2:=yb (Bj f5.o (Ak (.slice S nfarms T) hc).1)
 clear hc hf
 generalize d4.setCell (aV w.heap.size 22) (.slice S nfarms T)=f0 at*
 refine hK.o _ _ (by first|(intro h;cases h;done)|exact fun _=>c7.o) ?_
 clear hK K
 refine AF (by kernel_rfl) ?_
 refine NoPanic.normal ?_
 simp only[Exit.then]
 refine Ah (A7 ?_)
 refine wp_region_noPanic ?_
 have fa:f0.drew.heap[w.heap.size]?=some (.cells #[.string x.name,iV x.season.op,iV x.season.n,iV x.season.u,.string x.season.rn,iV x.season.ri,.slice a0 x.season.args.length p0,iV x.cap.op,iV x.cap.n,iV x.cap.u,.string x.cap.rn,iV x.cap.ri,.slice a1 x.cap.args.length p1,iV x.start.op,iV x.start.n,iV x.start.u,.string x.start.rn,iV x.start.ri,.slice a2 x.start.args.length p2,.slice Z a7 a6,.slice H F G,.slice m y l,.slice S nfarms T,.slice L.rots.a L.rots.n L.rots.c,.slice L.rights.a L.rights.n L.rights.c,.slice L.duties.a L.duties.n L.duties.c] 35 (0,0)):=ff.o
 have cd:=yb fa
 clear fa
 refine BZ (by kernel_rfl) (fun W=>W.heap[w.heap.size]?=some (.cells #[.string x.name,iV x.season.op,iV x.season.n,iV x.season.u,.string x.season.rn,iV x.season.ri,.slice a0 x.season.args.length p0,iV x.cap.op,iV x.cap.n,iV x.cap.u,.string x.cap.rn,iV x.cap.ri,.slice a1 x.cap.args.length p1,iV x.start.op,iV x.start.n,iV x.start.u,.string x.start.rn,iV x.start.ri,.slice a2 x.start.args.length p2,.slice Z a7 a6,.slice H F G,.slice m y l,.slice S nfarms T,.slice L.rots.a L.rots.n L.rots.c,.slice L.rights.a L.rights.n L.rights.c,.slice L.duties.a L.duties.n L.duties.c] 35 (0,0))) 10 ?_
 refine A1 (i:=0) (v:=pV w.heap.size 23) rfl (by kernel_rfl) (by kernel_rfl) (by kernel_rfl) (fun _ _ _ h=>h) (by kernel_rfl) (Or.inl ⟨by rfl,?_⟩) (fun _=>cd.o) ?_
 ·intro w _;go_simp
 refine Aj (i:=1) (v:=.slice L.rots.a L.rots.n L.rots.c) rfl (by kernel_rfl) (by kernel_rfl) (by kernel_rfl) (fun _ _ _ h=>h) (by kernel_rfl) (Or.inl ⟨by rfl,?_⟩) cd.o ?_
 ·intro W hW
  have hc:W.cell? (aV w.heap.size 23)=some (.slice L.rots.a L.rots.n L.rots.c):=by simp only[World.cell?,hW];rfl
  clear hW
  go_simp
 refine A1 (i:=3) (v:=pV w.heap.size 24) rfl (by kernel_rfl) (by kernel_rfl) (by kernel_rfl) (fun _ _ _ h=>h) (by kernel_rfl) (Or.inl ⟨by rfl,?_⟩) (fun _=>cd.o) ?_
 ·intro w _;go_simp
 refine Aj (i:=4) (v:=.slice L.rights.a L.rights.n L.rights.c) rfl (by kernel_rfl) (by kernel_rfl) (by kernel_rfl) (fun _ _ _ h=>h) (by kernel_rfl) (Or.inl ⟨by rfl,?_⟩) cd.o ?_
 ·intro W hW
  have hc:W.cell? (aV w.heap.size 24)=some (.slice L.rights.a L.rights.n L.rights.c):=by simp only[World.cell?,hW];rfl
  clear hW
  go_simp
 refine A1 (i:=6) (v:=pV w.heap.size 25) rfl (by kernel_rfl) (by kernel_rfl) (by kernel_rfl) (fun _ _ _ h=>h) (by kernel_rfl) (Or.inl ⟨by rfl,?_⟩) (fun _=>cd.o) ?_
 ·intro w _;go_simp
 refine Aj (i:=7) (v:=.slice L.duties.a L.duties.n L.duties.c) rfl (by kernel_rfl) (by kernel_rfl) (by kernel_rfl) (fun _ _ _ h=>h) (by kernel_rfl) (Or.inl ⟨by rfl,?_⟩) cd.o ?_
 ·intro W hW
  have hc:W.cell? (aV w.heap.size 25)=some (.slice L.duties.a L.duties.n L.duties.c):=by simp only[World.cell?,hW];rfl
  clear hW
  go_simp
 have bb:Hid (W1.grownBy f0.drew (some w.heap.size)):=yb (LF f2.o)
 refine A0 (i:=2) (by kernel_rfl) rfl (fun K hK=>?_)
 go_simp
 refine (Sd (Q:=(fun cs (d:B6 × Nat)=>Hc N w (A4 L d.2) cs d.1)) (TJ (HV.o.rots) (bw.o _ bb.o)) (bp.o _ bb.o) TI (by rw[zE];exact b4.o.rots)).mono ?_
 rintro e eb ⟨⟨a8,nrots,Y⟩,rfl,bq,al,ax⟩
 rw[show Ai.v ⟨a8,nrots,Y⟩=Value.slice a8 nrots Y from rfl]
 simp only at bq ax
 have bg:Hid (W1.grownBy eb (some w.heap.size)):=yb (Bj bb.o (Ch al))
 have cq:Hid (eb.heap[w.heap.size]?=some (.cells #[.string x.name,iV x.season.op,iV x.season.n,iV x.season.u,.string x.season.rn,iV x.season.ri,.slice a0 x.season.args.length p0,iV x.cap.op,iV x.cap.n,iV x.cap.u,.string x.cap.rn,iV x.cap.ri,.slice a1 x.cap.args.length p1,iV x.start.op,iV x.start.n,iV x.start.u,.string x.start.rn,iV x.start.ri,.slice a2 x.start.args.length p2,.slice Z a7 a6,.slice H F G,.slice m y l,.slice S nfarms T,.slice L.rots.a L.rots.n L.rots.c,.slice L.rights.a L.rights.n L.rights.c,.slice L.duties.a L.duties.n L.duties.c] 35 (0,0))):=yb ((al.block _ (by have:=bb.o.size;have:=aa.o;omega)).trans cd.o)
 replace E:=yb (E.o.up (fun b _ f=>al.block b f))
 replace C:=yb (C.o.up (fun b _ f=>al.block b f))
 replace A:=yb (A.o.up (fun b _ f=>al.block b f))
 replace X:=yb (X.o.up (fun b _ f=>al.block b f))
 have ac:Hid (I4 W1.heap.size eb 64 23 (fun cs (d:B6 × Nat)=>Hc N w (A4 L d.2) cs d.1) ⟨a8,nrots,Y⟩ x.rots.zipIdx):=yb (I4.of bq (by exact bb.o.size) ax)
 clear bq al ax
 refine hK.o _ _ (fun _=>cq.o) ?_
 clear hK K
 refine A0 (i:=5) (by kernel_rfl) rfl (fun K hK=>?_)
 go_simp
 refine (OF (HV.o.rights.same (fun _ h=>h) (bw.o _ bg.o) (fun _ _ h=>h)) (bp.o _ bg.o) K8 b4.o.rights).mono ?_
 rintro e dl ⟨⟨I,nrights,J⟩,rfl,ay,ag,an⟩
 rw[show Ai.v ⟨I,nrights,J⟩=Value.slice I nrights J from rfl]
 simp only at ay an
 have bh:Hid (W1.grownBy dl (some w.heap.size)):=yb (Bj bg.o (Ch ag))
 have cy:Hid (dl.heap[w.heap.size]?=some (.cells #[.string x.name,iV x.season.op,iV x.season.n,iV x.season.u,.string x.season.rn,iV x.season.ri,.slice a0 x.season.args.length p0,iV x.cap.op,iV x.cap.n,iV x.cap.u,.string x.cap.rn,iV x.cap.ri,.slice a1 x.cap.args.length p1,iV x.start.op,iV x.start.n,iV x.start.u,.string x.start.rn,iV x.start.ri,.slice a2 x.start.args.length p2,.slice Z a7 a6,.slice H F G,.slice m y l,.slice S nfarms T,.slice L.rots.a L.rots.n L.rots.c,.slice L.rights.a L.rights.n L.rights.c,.slice L.duties.a L.duties.n L.duties.c] 35 (0,0))):=yb ((ag.block _ (by have:=bg.o.size;have:=aa.o;omega)).trans cq.o)
 replace E:=yb (E.o.up (fun b _ f=>ag.block b f))
 replace C:=yb (C.o.up (fun b _ f=>ag.block b f))
 replace A:=yb (A.o.up (fun b _ f=>ag.block b f))
 replace X:=yb (X.o.up (fun b _ f=>ag.block b f))
 replace ac:=yb (ac.o.up (fun b _ f=>ag.block b f))
 have ad:Hid (I4 W1.heap.size dl 68 37 (CU N w) ⟨I,nrights,J⟩ x.rights):=yb (I4.of ay (by exact bg.o.size) an)
 clear ay ag an
 refine hK.o _ _ (fun _=>cy.o) ?_
 clear hK K
 refine A0 (i:=8) (by kernel_rfl) rfl (fun K hK=>?_)
 go_simp
 refine (Qf (HV.o.duties.same (fun _ h=>h) (bw.o _ bh.o) (fun _ _ h=>h)) (bp.o _ bh.o) OD b4.o.duties).mono ?_
 rintro e bz ⟨⟨P,nduties,R⟩,rfl,b3,ae,am⟩
 rw[show Ai.v ⟨P,nduties,R⟩=Value.slice P nduties R from rfl]
 simp only at b3 am
 have ee:Hid (W1.grownBy bz (some w.heap.size)):=yb (Bj bh.o (Ch ae))
 have aw:Hid (bz.heap[w.heap.size]?=some (.cells #[.string x.name,iV x.season.op,iV x.season.n,iV x.season.u,.string x.season.rn,iV x.season.ri,.slice a0 x.season.args.length p0,iV x.cap.op,iV x.cap.n,iV x.cap.u,.string x.cap.rn,iV x.cap.ri,.slice a1 x.cap.args.length p1,iV x.start.op,iV x.start.n,iV x.start.u,.string x.start.rn,iV x.start.ri,.slice a2 x.start.args.length p2,.slice Z a7 a6,.slice H F G,.slice m y l,.slice S nfarms T,.slice L.rots.a L.rots.n L.rots.c,.slice L.rights.a L.rights.n L.rights.c,.slice L.duties.a L.duties.n L.duties.c] 35 (0,0))):=yb ((ae.block _ (by have:=bh.o.size;have:=aa.o;omega)).trans cy.o)
 replace E:=yb (E.o.up (fun b _ f=>ae.block b f))
 replace C:=yb (C.o.up (fun b _ f=>ae.block b f))
 replace A:=yb (A.o.up (fun b _ f=>ae.block b f))
 replace X:=yb (X.o.up (fun b _ f=>ae.block b f))
 replace ac:=yb (ac.o.up (fun b _ f=>ae.block b f))
 replace ad:=yb (ad.o.up (fun b _ f=>ae.block b f))
 have af:Hid (I4 W1.heap.size bz 70 11 (E8 N w) ⟨P,nduties,R⟩ x.duties):=yb (I4.of b3 (by exact bh.o.size) am)
 clear b3 ae am
 refine hK.o _ _ (fun _=>aw.o) ?_
 clear hK K
 refine A1 (i:=9) (v:=pV w.heap.size 23) rfl (by kernel_rfl) (by kernel_rfl) (by kernel_rfl) (fun _ _ _ h=>h) (by kernel_rfl) (Or.inl ⟨by rfl,?_⟩) (by first|exact fun _=>aw.o|(intro h;cases h)) ?_
 ·intro w _;go_simp
 refine A0 (i:=10) (by kernel_rfl) rfl (fun K hK=>?_)
 have hc:bz.cell? (aV w.heap.size 23)=some (.slice L.rots.a L.rots.n L.rots.c):=by simp only[World.cell?,aw.o];rfl
 have hf:bz.frozen? (aV w.heap.size 23)=false:=by simp[World.frozen?,aw.o]
 go_simp
 have c8:Hid ((bz.setCell (aV w.heap.size 23) (.slice a8 nrots Y)).heap[w.heap.size]?=some (.cells #[.string x.name,iV x.season.op,iV x.season.n,iV x.season.u,.string x.season.rn,iV x.season.ri,.slice a0 x.season.args.length p0,iV x.cap.op,iV x.cap.n,iV x.cap.u,.string x.cap.rn,iV x.cap.ri,.slice a1 x.cap.args.length p1,iV x.start.op,iV x.start.n,iV x.start.u,.string x.start.rn,iV x.start.ri,.slice a2 x.start.args.length p2,.slice Z a7 a6,.slice H F G,.slice m y l,.slice S nfarms T,.slice a8 nrots Y,.slice L.rights.a L.rights.n L.rights.c,.slice L.duties.a L.duties.n L.duties.c] 35 (0,0))):=yb (by
  have:=z7 bz w.heap.size 23 _ _ (.slice a8 nrots Y) aw.o
  rw[this];rfl)
 replace E:=yb (E.o.up (fun b hB f=>(Ak (.slice a8 nrots Y) hc).1.block b f (fun e=>by cases e;have:=aa.o;omega)))
 replace C:=yb (C.o.up (fun b hB f=>(Ak (.slice a8 nrots Y) hc).1.block b f (fun e=>by cases e;have:=aa.o;omega)))
 replace A:=yb (A.o.up (fun b hB f=>(Ak (.slice a8 nrots Y) hc).1.block b f (fun e=>by cases e;have:=aa.o;omega)))
 replace X:=yb (X.o.up (fun b hB f=>(Ak (.slice a8 nrots Y) hc).1.block b f (fun e=>by cases e;have:=aa.o;omega)))
 replace ac:=yb (ac.o.up (fun b hB f=>(Ak (.slice a8 nrots Y) hc).1.block b f (fun e=>by cases e;have:=aa.o;omega)))
 replace ad:=yb (ad.o.up (fun b hB f=>(Ak (.slice a8 nrots Y) hc).1.block b f (fun e=>by cases e;have:=aa.o;omega)))
 replace af:=yb (af.o.up (fun b hB f=>(Ak (.slice a8 nrots Y) hc).1.block b f (fun e=>by cases e;have:=aa.o;omega)))
 have ei:=yb (Bj ee.o (Ak (.slice a8 nrots Y) hc).1)
 clear hc hf
 generalize bz.setCell (aV w.heap.size 23) (.slice a8 nrots Y)=cr at*
 refine hK.o _ _ (by first|(intro h;cases h;done)|exact fun _=>aw.o) ?_
 clear hK K
 refine A1 (i:=11) (v:=pV w.heap.size 24) rfl (by kernel_rfl) (by kernel_rfl) (by kernel_rfl) (fun _ _ _ h=>h) (by kernel_rfl) (Or.inl ⟨by rfl,?_⟩) (by first|exact fun _=>c8.o|(intro h;cases h)) ?_
 ·intro w _;go_simp
 refine A0 (i:=12) (by kernel_rfl) rfl (fun K hK=>?_)
 have hc:cr.cell? (aV w.heap.size 24)=some (.slice L.rights.a L.rights.n L.rights.c):=by simp only[World.cell?,c8.o];rfl
 have hf:cr.frozen? (aV w.heap.size 24)=false:=by simp[World.frozen?,c8.o]
 go_simp
 have c3:Hid ((cr.setCell (aV w.heap.size 24) (.slice I nrights J)).heap[w.heap.size]?=some (.cells #[.string x.name,iV x.season.op,iV x.season.n,iV x.season.u,.string x.season.rn,iV x.season.ri,.slice a0 x.season.args.length p0,iV x.cap.op,iV x.cap.n,iV x.cap.u,.string x.cap.rn,iV x.cap.ri,.slice a1 x.cap.args.length p1,iV x.start.op,iV x.start.n,iV x.start.u,.string x.start.rn,iV x.start.ri,.slice a2 x.start.args.length p2,.slice Z a7 a6,.slice H F G,.slice m y l,.slice S nfarms T,.slice a8 nrots Y,.slice I nrights J,.slice L.duties.a L.duties.n L.duties.c] 35 (0,0))):=yb (by
  have:=z7 cr w.heap.size 24 _ _ (.slice I nrights J) c8.o
  rw[this];rfl)
 replace E:=yb (E.o.up (fun b hB f=>(Ak (.slice I nrights J) hc).1.block b f (fun e=>by cases e;have:=aa.o;omega)))
 replace C:=yb (C.o.up (fun b hB f=>(Ak (.slice I nrights J) hc).1.block b f (fun e=>by cases e;have:=aa.o;omega)))
 replace A:=yb (A.o.up (fun b hB f=>(Ak (.slice I nrights J) hc).1.block b f (fun e=>by cases e;have:=aa.o;omega)))
 replace X:=yb (X.o.up (fun b hB f=>(Ak (.slice I nrights J) hc).1.block b f (fun e=>by cases e;have:=aa.o;omega)))
 replace ac:=yb (ac.o.up (fun b hB f=>(Ak (.slice I nrights J) hc).1.block b f (fun e=>by cases e;have:=aa.o;omega)))
 replace ad:=yb (ad.o.up (fun b hB f=>(Ak (.slice I nrights J) hc).1.block b f (fun e=>by cases e;have:=aa.o;omega)))
 replace af:=yb (af.o.up (fun b hB f=>(Ak (.slice I nrights J) hc).1.block b f (fun e=>by cases e;have:=aa.o;omega)))
 have fk:=yb (Bj ei.o (Ak (.slice I nrights J) hc).1)
 clear hc hf
 generalize cr.setCell (aV w.heap.size 24) (.slice I nrights J)=d5 at*
 refine hK.o _ _ (by first|(intro h;cases h;done)|exact fun _=>c8.o) ?_
 clear hK K
 refine A1 (i:=13) (v:=pV w.heap.size 25) rfl (by kernel_rfl) (by kernel_rfl) (by kernel_rfl) (fun _ _ _ h=>h) (by kernel_rfl) (Or.inl ⟨by rfl,?_⟩) (by first|exact fun _=>c3.o|(intro h;cases h)) ?_
 ·intro w _;go_simp
 refine A0 (i:=14) (by kernel_rfl) rfl (fun K hK=>?_)
 have hc:d5.cell? (aV w.heap.size 25)=some (.slice L.duties.a L.duties.n L.duties.c):=by simp only[World.cell?,c3.o];rfl
 have hf:d5.frozen? (aV w.heap.size 25)=false:=by simp[World.frozen?,c3.o]
 go_simp
 have eq:Hid ((d5.setCell (aV w.heap.size 25) (.slice P nduties R)).heap[w.heap.size]?=some (.cells #[.string x.name,iV x.season.op,iV x.season.n,iV x.season.u,.string x.season.rn,iV x.season.ri,.slice a0 x.season.args.length p0,iV x.cap.op,iV x.cap.n,iV x.cap.u,.string x.cap.rn,iV x.cap.ri,.slice a1 x.cap.args.length p1,iV x.start.op,iV x.start.n,iV x.start.u,.string x.start.rn,iV x.start.ri,.slice a2 x.start.args.length p2,.slice Z a7 a6,.slice H F G,.slice m y l,.slice S nfarms T,.slice a8 nrots Y,.slice I nrights J,.slice P nduties R] 35 (0,0))):=yb (by
  have:=z7 d5 w.heap.size 25 _ _ (.slice P nduties R) c3.o
  rw[this];rfl)
 replace E:=yb (E.o.up (fun b hB f=>(Ak (.slice P nduties R) hc).1.block b f (fun e=>by cases e;have:=aa.o;omega)))
 replace C:=yb (C.o.up (fun b hB f=>(Ak (.slice P nduties R) hc).1.block b f (fun e=>by cases e;have:=aa.o;omega)))
 replace A:=yb (A.o.up (fun b hB f=>(Ak (.slice P nduties R) hc).1.block b f (fun e=>by cases e;have:=aa.o;omega)))
 replace X:=yb (X.o.up (fun b hB f=>(Ak (.slice P nduties R) hc).1.block b f (fun e=>by cases e;have:=aa.o;omega)))
 replace ac:=yb (ac.o.up (fun b hB f=>(Ak (.slice P nduties R) hc).1.block b f (fun e=>by cases e;have:=aa.o;omega)))
 replace ad:=yb (ad.o.up (fun b hB f=>(Ak (.slice P nduties R) hc).1.block b f (fun e=>by cases e;have:=aa.o;omega)))
 replace af:=yb (af.o.up (fun b hB f=>(Ak (.slice P nduties R) hc).1.block b f (fun e=>by cases e;have:=aa.o;omega)))
 have f7:=yb (Bj fk.o (Ak (.slice P nduties R) hc).1)
 clear hc hf
 generalize d5.setCell (aV w.heap.size 25) (.slice P nduties R)=g9 at*
 refine hK.o _ _ (by first|(intro h;cases h;done)|exact fun _=>c3.o) ?_
 clear hK K
 refine AF (by kernel_rfl) ?_
 refine NoPanic.normal ?_
 simp only[Exit.then]
 obtain ⟨U,rfl⟩:∃z:World,z=g9:=⟨_,rfl⟩
 have HQ:=yb eq.o
 have HP:=yb f7.o
 have dr:nrots=x.rots.length:=by have:=ac.o.1;simp only[zE] at this;exact this
 have gn:nrots<=100000:=by rw[dr];exact b4.o.rots
 have d8:=yb dr
 clear dr
 have ck:U.cell? (aV w.heap.size 23)=some (.slice a8 nrots Y):=by simp only[World.cell?,HQ.o];rfl
 refine Ah (A7 ?_)
 go_wp2
 clear ck
 go_loopw [37] (fun iv wr=>∃hs:List Ai,hs.length<=nrots∧iv=iV (hs.length:Int)∧Hid (WQ U a8 N w x.rots hs wr)) (fun iv _=>nrots - (intOf iv).toNat)
 case atStart=>exact ⟨[],yC _,rfl,yb ⟨LD _ _,yC _,fun _ _ _ h=>h,fun _ _ _ _=>rfl,fun j hj=>by simp at hj⟩⟩
 case round=>
  obtain ⟨hs,hi,rfl,ai⟩:=hrel
  obtain ⟨i,cl⟩:∃i,i=hs.length:=⟨_,rfl⟩
  rw[<-cl] at hi ⊢
  by_cases f:i < nrots
  ·have gl:i < x.rots.zipIdx.length:=by rw[zE,<-d8.o];exact f
   have cg:i < x.rots.length:=by rw[<-d8.o];exact f
   obtain ⟨g,cs,ha,er,cf,b5,fh,cz⟩:=ac.o.2 i gl
   simp only at ha
   subst ha
   rw[xg] at cz
   simp only[yB] at cz
   have cn:=MN cz b5
   have hz:=aa.o
   have ez:wr.cell? (aV g (i*23+22))=some (.slice (A4 L i).a (A4 L i).n (A4 L i).c):=(ai.o.cells g rfl _ (fun j hj=>by omega)).trans (fh 22 _ cn)
   have ev:wr.heap[w.heap.size]?=some (.cells #[.string x.name,iV x.season.op,iV x.season.n,iV x.season.u,.string x.season.rn,iV x.season.ri,.slice a0 x.season.args.length p0,iV x.cap.op,iV x.cap.n,iV x.cap.u,.string x.cap.rn,iV x.cap.ri,.slice a1 x.cap.args.length p1,iV x.start.op,iV x.start.n,iV x.start.u,.string x.start.rn,iV x.start.ri,.slice a2 x.start.args.length p2,.slice Z a7 a6,.slice H F G,.slice m y l,.slice S nfarms T,.slice (some (aV g 0)) nrots Y,.slice I nrights J,.slice P nduties R] 35 (0,0)):=(ai.o.grown.block _ (by have:=HP.o.size;omega) (fun e=>by rw[G3 cg] at e;cases e;omega)).trans HQ.o
   have ft:∀V:World,Below wr.heap.size wr V->V.frozen? (aV g (i*23+22))=false:=fun V hV=>(Ty.same (ai.o.ty g rfl _ cf) (hV.block g (yr cf.lt ai.o.grown.size))).frozen
   have d3:=TH cz
   have en:∀b,N b->wr.heap[b]?=w.heap[b]?:=fun b hb=>(ai.o.grown.block b (bp.o _ HP.o b hb) (fun e=>by rw[G3 cg] at e;cases e;have:=HN.o _ hb;omega)).trans (bw.o _ HP.o b hb)
   have et:∀b,N b->b < wr.drew.heap.size:=fun b hb=>yr (bp.o _ HP.o b hb) ai.o.grown.size
   have da:=yb (Qg (w:=wr.drew) (d3.same (fun _ h=>h) en (fun _ _ h=>h)) et Ts (b4.o.turns _ (yz cg)))
   have bi:Hid (wr.drew.heap[w.heap.size]?=some (.cells #[.string x.name,iV x.season.op,iV x.season.n,iV x.season.u,.string x.season.rn,iV x.season.ri,.slice a0 x.season.args.length p0,iV x.cap.op,iV x.cap.n,iV x.cap.u,.string x.cap.rn,iV x.cap.ri,.slice a1 x.cap.args.length p1,iV x.start.op,iV x.start.n,iV x.start.u,.string x.start.rn,iV x.start.ri,.slice a2 x.start.args.length p2,.slice Z a7 a6,.slice H F G,.slice m y l,.slice S nfarms T,.slice (some (aV g 0)) nrots Y,.slice I nrights J,.slice P nduties R] 35 (0,0))∧wr.drew.cell? (aV g (i*23+22))=some (.slice (A4 L i).a (A4 L i).n (A4 L i).c)):=yb ⟨ev,ez⟩
   have gi:=yb ft
   have gp:Hid (g < U.heap.size):=yb cf.lt
   have ej:Hid (g < wr.heap.size∧w.heap.size < wr.heap.size):=yb ⟨yr cf.lt ai.o.grown.size,by have:=HP.o.size;have:=ai.o.grown.size;omega⟩
   have dz:=yb cl
   have el:=yb cg
   have gg:(i:Int) < (nrots:Int):=by omega
   clear er cf b5 fh cz cn ev ft d3 en et cl hz ez
   go_upto_region 6 with fail
   refine wp_region_noPanic ?_
   refine BZ (by kernel_rfl) (fun W=>W.heap[w.heap.size]?=some (.cells #[.string x.name,iV x.season.op,iV x.season.n,iV x.season.u,.string x.season.rn,iV x.season.ri,.slice a0 x.season.args.length p0,iV x.cap.op,iV x.cap.n,iV x.cap.u,.string x.cap.rn,iV x.cap.ri,.slice a1 x.cap.args.length p1,iV x.start.op,iV x.start.n,iV x.start.u,.string x.start.rn,iV x.start.ri,.slice a2 x.start.args.length p2,.slice Z a7 a6,.slice H F G,.slice m y l,.slice S nfarms T,.slice (some (aV g 0)) nrots Y,.slice I nrights J,.slice P nduties R] 35 (0,0))∧W.cell? (aV g (i*23+22))=some (.slice (A4 L i).a (A4 L i).n (A4 L i).c)) 12 ?_
   refine A1 (i:=0) (v:=pV w.heap.size 23) rfl (by kernel_rfl) (by kernel_rfl) (by kernel_rfl) (fun _ _ _ h=>h) (by kernel_rfl) (Or.inl ⟨by rfl,?_⟩) (fun _=>bi.o) ?_
   ·intro w _;go_simp
   refine Aj (i:=1) (v:=.slice (some (aV g 0)) nrots Y) rfl (by kernel_rfl) (by kernel_rfl) (by kernel_rfl) (fun _ _ _ h=>h) (by kernel_rfl) (Or.inl ⟨by rfl,?_⟩) bi.o ?_
   ·rintro W ⟨hW,fj⟩
    have hc:W.cell? (aV w.heap.size 23)=some (.slice (some (aV g 0)) nrots Y):=by simp only[World.cell?,hW];rfl
    clear hW
    go_simp
   refine A1 (i:=2) (v:=iV (i:Int)) rfl (by kernel_rfl) (by kernel_rfl) (by kernel_rfl) (fun _ _ _ h=>h) (by kernel_rfl) (Or.inl ⟨by rfl,?_⟩) (fun _=>bi.o) ?_
   ·intro w _;go_simp
   refine A1 (i:=3) (v:=pV w.heap.size 23) rfl (by kernel_rfl) (by kernel_rfl) (by kernel_rfl) (fun _ _ _ h=>h) (by kernel_rfl) (Or.inl ⟨by rfl,?_⟩) (fun _=>bi.o) ?_
   ·intro w _;go_simp
   refine Aj (i:=4) (v:=.slice (some (aV g 0)) nrots Y) rfl (by kernel_rfl) (by kernel_rfl) (by kernel_rfl) (fun _ _ _ h=>h) (by kernel_rfl) (Or.inl ⟨by rfl,?_⟩) bi.o ?_
   ·rintro W ⟨hW,fj⟩
    have hc:W.cell? (aV w.heap.size 23)=some (.slice (some (aV g 0)) nrots Y):=by simp only[World.cell?,hW];rfl
    clear hW
    go_simp
   refine A1 (i:=5) (v:=iV (i:Int)) rfl (by kernel_rfl) (by kernel_rfl) (by kernel_rfl) (fun _ _ _ h=>h) (by kernel_rfl) (Or.inl ⟨by rfl,?_⟩) (fun _=>bi.o) ?_
   ·intro w _;go_simp
   refine A1 (i:=6) (v:=pV g (i*23)) rfl (by kernel_rfl) (by kernel_rfl) (by kernel_rfl) (fun _ _ _ h=>h) (by kernel_rfl) (Or.inl ⟨by rfl,?_⟩) (fun _=>bi.o) ?_
   ·intro w _;go_simp
   refine A1 (i:=7) (v:=pV g (i*23+22)) rfl (by kernel_rfl) (by kernel_rfl) (by kernel_rfl) (fun _ _ _ h=>h) (by kernel_rfl) (Or.inl ⟨by rfl,?_⟩) (fun _=>bi.o) ?_
   ·intro w _;go_simp
   refine Aj (i:=8) (v:=.slice (A4 L i).a (A4 L i).n (A4 L i).c) rfl (by kernel_rfl) (by kernel_rfl) (by kernel_rfl) (fun _ _ _ h=>h) (by kernel_rfl) (Or.inl ⟨by rfl,?_⟩) bi.o ?_
   ·rintro W ⟨hW,fj⟩
    have hc:W.cell? (aV w.heap.size 23)=some (.slice (some (aV g 0)) nrots Y):=by simp only[World.cell?,hW];rfl
    clear hW
    go_simp
   refine A0 (i:=9) (by kernel_rfl) rfl (fun K hK=>?_)
   go_simp
   refine da.o.mono ?_
   rintro e V ⟨⟨ta,tn,tc⟩,rfl,du,dd,cc⟩
   rw[show Ai.v ⟨ta,tn,tc⟩=Value.slice ta tn tc from rfl]
   simp only at du cc
   have gb:Hid (I4 wr.heap.size V 66 8 (E0 N w) ⟨ta,tn,tc⟩ (x.rots[i]'el.o).turns):=yb (I4.of du (yf _) cc)
   have fc:Hid (Below wr.heap.size wr V):=yb ((yg _ _).drew.trans dd)
   have dc:Hid (V.heap[w.heap.size]?=some (.cells #[.string x.name,iV x.season.op,iV x.season.n,iV x.season.u,.string x.season.rn,iV x.season.ri,.slice a0 x.season.args.length p0,iV x.cap.op,iV x.cap.n,iV x.cap.u,.string x.cap.rn,iV x.cap.ri,.slice a1 x.cap.args.length p1,iV x.start.op,iV x.start.n,iV x.start.u,.string x.start.rn,iV x.start.ri,.slice a2 x.start.args.length p2,.slice Z a7 a6,.slice H F G,.slice m y l,.slice S nfarms T,.slice (some (aV g 0)) nrots Y,.slice I nrights J,.slice P nduties R] 35 (0,0))∧V.cell? (aV g (i*23+22))=some (.slice (A4 L i).a (A4 L i).n (A4 L i).c)):=yb ⟨(dd.block _ ej.o.2).trans bi.o.1,(dd.cell (p:=(aV g (i*23+22))) ej.o.1).trans bi.o.2⟩
   clear du dd cc
   refine hK.o _ _ (fun _=>dc.o) ?_
   clear hK K
   refine A1 (i:=10) (v:=pV g (i*23)) rfl (by kernel_rfl) (by kernel_rfl) (by kernel_rfl) (fun _ _ _ h=>h) (by kernel_rfl) (Or.inl ⟨by rfl,?_⟩) (fun _=>dc.o) ?_
   ·intro w _;go_simp
   refine A1 (i:=11) (v:=pV g (i*23+22)) rfl (by kernel_rfl) (by kernel_rfl) (by kernel_rfl) (fun _ _ _ h=>h) (by kernel_rfl) (Or.inl ⟨by rfl,?_⟩) (fun _=>dc.o) ?_
   ·intro w _;go_simp
   refine A0 (i:=12) (by kernel_rfl) rfl (fun K hK=>?_)
   have hc:=dc.o.2
   have hf:=gi.o V fc.o
   go_simp
   have dj:Hid (WQ U (some (aV g 0)) N w x.rots (hs++[⟨ta,tn,tc⟩]) (V.setCell (aV g (i*23+22)) (.slice ta tn tc))):=yb (by
    obtain rfl:=dz.o
    exact ai.o.next el.o rfl gp.o fc.o hc gb.o rfl)
   clear hc hf
   generalize V.setCell (aV g (i*23+22)) (.slice ta tn tc)=V2 at*
   refine hK.o _ _ (by intro h;cases h) ?_
   clear hK K
   refine AF (by kernel_rfl) ?_
   refine NoPanic.normal ?_
   go_wp2
   exact ⟨⟨hs++[⟨ta,tn,tc⟩],by simp;have:=dz.o;omega,by simp;have:=dz.o;omega,dj⟩,by simp[intOf];omega⟩
  ·have dy:i=nrots:=by omega
   have gg:decide ((i:Int) < (nrots:Int))=false:=by simp;omega
   have hz:=aa.o
   have f6:=HP.o.size
   have be:∀b,b < W1.heap.size->some b≠MX x.rots a8:=fun b hb e=>by
    have h0:=MY e
    obtain ⟨g,cs,ha,er,_⟩:=ac.o.2 0 (by rw[zE];exact h0)
    simp only at ha
    rw[ha,G3 h0] at e
    cases e;omega
   have d0:∀b t,Ty U b t->t≠64->some b≠MX x.rots a8:=fun b t ht ci e=>by
    have h0:=MY e
    obtain ⟨g,cs,ha,_,cf,_⟩:=ac.o.2 0 (by rw[zE];exact h0)
    simp only at ha
    rw[ha,G3 h0] at e
    cases e
    exact ci (ht.inj cf)
   have ec:∀b,N b->wr.heap[b]?=w.heap[b]?:=fun b hb=>(ai.o.grown.block b (bp.o _ HP.o b hb) (be b (by have:=HN.o b hb;omega))).trans (bw.o _ HP.o b hb)
   have dw:wr.heap[w.heap.size]?=some (.cells #[.string x.name,iV x.season.op,iV x.season.n,iV x.season.u,.string x.season.rn,iV x.season.ri,.slice a0 x.season.args.length p0,iV x.cap.op,iV x.cap.n,iV x.cap.u,.string x.cap.rn,iV x.cap.ri,.slice a1 x.cap.args.length p1,iV x.start.op,iV x.start.n,iV x.start.u,.string x.start.rn,iV x.start.ri,.slice a2 x.start.args.length p2,.slice Z a7 a6,.slice H F G,.slice m y l,.slice S nfarms T,.slice a8 nrots Y,.slice I nrights J,.slice P nduties R] 35 (0,0)):=(ai.o.grown.block _ (by omega) (be _ (by omega))).trans HQ.o
   have eo:wr.heap[w.heap.size+1]?=some (.cells #[.string ⟨#[]⟩,iV 0,iV 0,iV 0,.string ⟨#[]⟩,iV 0,.slice none 0 0,iV 0,iV 0,iV 0,.string ⟨#[]⟩,iV 0,.slice none 0 0,iV 0,iV 0,iV 0,.string ⟨#[]⟩,iV 0,.slice none 0 0,.slice none 0 0,.slice none 0 0,.slice none 0 0,.slice none 0 0,.slice none 0 0,.slice none 0 0,.slice none 0 0] 35 (0,0)):=(ai.o.grown.block _ (by omega) (be _ (by omega))).trans ((HP.o.block _ (by omega) (fun e=>by simp at e)).trans gd.o)
   have aq:∀b t,Ty U b t->t≠64->wr.heap[b]?=U.heap[b]?:=fun b t ht ci=>ai.o.grown.block b ht.lt (d0 b t ht ci)
   have de:∀i (h:i < hs.length),A4 (⟨w.heap.size,⟨Z,a7,a6⟩,⟨H,F,G⟩,⟨m,y,l⟩,⟨S,nfarms,T⟩,⟨a8,nrots,Y⟩,⟨I,nrights,J⟩,⟨P,nduties,R⟩,hs⟩:Bw) i=hs[i]:=fun i h=>by unfold A4;simp[h]
   have e5:Cy (fun g=>w.heap.size<=g∧g≠w.heap.size+1) (EV N wr) (RV wr) wr (⟨w.heap.size,⟨Z,a7,a6⟩,⟨H,F,G⟩,⟨m,y,l⟩,⟨S,nfarms,T⟩,⟨a8,nrots,Y⟩,⟨I,nrights,J⟩,⟨P,nduties,R⟩,hs⟩:Bw) x:=by
    refine Qr (B:=W1.heap.size) ec (fun g hg=>by omega) b4.o dw HV.o.name gc.o ge.o gf.o (E.o.upT fun b _ ht=>aq b _ ht (by decide)) (C.o.upT fun b _ ht=>aq b _ ht (by decide)) (A.o.upT fun b _ ht=>aq b _ ht (by decide)) (X.o.upT fun b _ ht=>aq b _ ht (by decide)) ?_ (ad.o.upT fun b _ ht=>aq b _ ht (by decide)) (af.o.upT fun b _ ht=>aq b _ ht (by decide))
    refine TD (L:=L) (L':=(⟨w.heap.size,⟨Z,a7,a6⟩,⟨H,F,G⟩,⟨m,y,l⟩,⟨S,nfarms,T⟩,⟨a8,nrots,Y⟩,⟨I,nrights,J⟩,⟨P,nduties,R⟩,hs⟩:Bw)) ec ac.o (fun g hg=>by omega) b4.o.rots b4.o.turns (fun g hg ht=>ai.o.ty g hg _ ht) (fun g hg i q hq=>ai.o.cells g hg _ (fun j _=>by omega)) (fun k hk g hg=>?_) (fun k hk=>?_)
    ·have cj:k < hs.length:=by rw[<-cl,dy,d8.o];exact hk
     rw[de k cj]
     exact (ai.o.done k cj hk).2 g hg
    ·have cj:k < hs.length:=by rw[<-cl,dy,d8.o];exact hk
     rw[de k cj]
     exact I4.of (ai.o.done k cj hk).1.1 f6 (ai.o.done k cj hk).1.2
   have ea:Below w.heap.size w wr:=⟨ai.o.grown.os.trans (HP.o.os.trans cx.o.os),ai.o.grown.tape.trans (HP.o.tape.trans cx.o.tape),ai.o.grown.output.trans (HP.o.output.trans cx.o.output),by have:=ai.o.grown.size;omega,fun b hb=>(ai.o.grown.block b (by omega) (be b (by omega))).trans ((HP.o.block b (by omega) (fun e=>by cases e;omega)).trans (cx.o.block b hb))⟩
   have fb:∀b,N b->b < w.heap.size∧b < wr.heap.size:=fun b hb=>⟨HN.o b hb,by have:=HN.o b hb;have:=ea.size;omega⟩
   generalize ey:(⟨w.heap.size,⟨Z,a7,a6⟩,⟨H,F,G⟩,⟨m,y,l⟩,⟨S,nfarms,T⟩,⟨a8,nrots,Y⟩,⟨I,nrights,J⟩,⟨P,nduties,R⟩,hs⟩:Bw)=Lc at e5 de
   have fq:Lc.s=w.heap.size:=by rw[<-ey]
   have dm:=yb e5;have cv:=yb ea;have db:=yb fb;have gs:=yb dw;have fl:=yb eo;have bo:=yb fq
   have gm:=yb b4.o.exprs
   clear e5 ea fb dw eo fq ey de aq ec be d0 hz f6 dy cl
   iterate 2
    go_wp2
    refine Ah (A7 ?_)
   have g7:∀(fn:Fn) (first cap:Array Value) (w:World),(Instr.makeFunc fn first cap).run Try.prog w=.ok (.func fn first cap) w:=fun _ _ _ _=>rfl
   go_wp2
   refine Ah (Ah (A7 ?_))
   go_wp2_with (first|(go_at_call 67;refine (Fy _ _).mono ?_;rintro e w2 ⟨rfl,rfl⟩))
   have e8:Below wr.heap.size wr ((wr.alloc (.cells #[.func (.func 79) #[] #[pV wr.heap.size 0]] 146)).alloc (.cells #[pV w.heap.size 0] 52)):=((yg _ _).alloc (yf _) _).alloc (by simp) _
   have ep:((wr.alloc (.cells #[.func (.func 79) #[] #[pV wr.heap.size 0]] 146)).alloc (.cells #[pV w.heap.size 0] 52)).cell? (aV wr.heap.size 0)=some (.func (.func 79) #[] #[pV wr.heap.size 0]):=by
    refine qd _ ?_
    have:=World.alloc_heap_new wr (.cells #[.func (.func 79) #[] #[pV wr.heap.size 0]] 146)
    simp only[World.cell?,this];simp
   have fp:((wr.alloc (.cells #[.func (.func 79) #[] #[pV wr.heap.size 0]] 146)).alloc (.cells #[pV w.heap.size 0] 52)).cell? (aV (wr.heap.size+1) 0)=some (pV w.heap.size 0):=by
    have:=World.alloc_heap_new (wr.alloc (.cells #[.func (.func 79) #[] #[pV wr.heap.size 0]] 146)) (.cells #[pV w.heap.size 0] 52)
    rw[zB] at this
    simp only[World.cell?,this];simp
   have ca:((wr.alloc (.cells #[.func (.func 79) #[] #[pV wr.heap.size 0]] 146)).alloc (.cells #[pV w.heap.size 0] 52)).heap.size=wr.heap.size+2:=by simp
   generalize (wr.alloc (.cells #[.func (.func 79) #[] #[pV wr.heap.size 0]] 146)).alloc (.cells #[pV w.heap.size 0] 52)=W4 at*
   have cw:=yb e8;have g5:=yb ep;have ga:=yb fp;have cm:=yb ca
   have e3:=dm.o.up (fun b hb=>(db.o b hb).2) e8
   have gq:=cv.o.size
   have d6:w.heap.size+2<=wr.heap.size:=by
    have h1:=(ye.1 fl.o).1
    omega
   have hA:=e3.all2 (by rw[bo.o];exact ⟨yf _,by omega⟩)
   have dx:=dm.o.all2 (by rw[bo.o];exact ⟨yf _,by omega⟩)
   have dh:OQ N W4 Lc x:=⟨fun j b o lt hp=>(IF hA hp).2.1,fun b hb=>⟨by have:=(db.o b hb).2;omega,fun j o lt hp=>by have h1:=(IF hA hp).1.1;have h2:=(db.o b hb).1;omega⟩,fun j b o lt hp hj=>(IF hA hp).2.2 hj⟩
   have di:∀j b o lt,GR Lc j b o lt->w.heap.size<=b∧b < wr.heap.size:=fun j b o lt hp=>⟨(IF dx hp).1.1,(IF dx hp).2.1.lt⟩
   have fs:=yb e3;have HA:=yb hA;have b8:=yb dh;have ch:=yb di;have dk:=yb d6
   clear e8 ep fp ca e3 hA dx dh di gq d6 g7
   refine EP ?_
   refine Ei (n:=10) Try.func48 rfl (fun _ _=>rfl) (Ln 9 (by omega) (wr.heap.size+1) Lc dm.o.ok) (fun a ha=>by
     obtain ⟨i,hi,rfl⟩:=zg.1 ha
     obtain ⟨b,o,h1,_⟩:=HA.o.get i hi (by rw[<-HA.o.length];exact hi)
     rw[h1];rfl)
    (OR W4 Lc x) (fun _ _ _=>False) (fun _ _ _=>False)
    (fun k a O W=>OR W4 Lc x k O W∧∃(b o:Nat) (lt:Int),GR Lc k b o lt∧a={tmps:=#[.agg #[.string x.name,iV x.season.op,iV x.season.n,iV x.season.u,.string x.season.rn,iV x.season.ri,.slice a0 x.season.args.length p0,iV x.cap.op,iV x.cap.n,iV x.cap.u,.string x.cap.rn,iV x.cap.ri,.slice a1 x.cap.args.length p1,iV x.start.op,iV x.start.n,iV x.start.u,.string x.start.rn,iV x.start.ri,.slice a2 x.start.args.length p2,.slice L.lets.a L.lets.n L.lets.c,.slice L.crops.a L.crops.n L.crops.c,.slice L.reaches.a L.reaches.n L.reaches.c,.slice L.farms.a L.farms.n L.farms.c,.slice L.rots.a L.rots.n L.rots.c,.slice L.rights.a L.rights.n L.rights.c,.slice L.duties.a L.duties.n L.duties.c],pV w.heap.size 0,pV (w.heap.size+1) 0,u3,pV wr.heap.size 0,pV b o,pV w.heap.size 19,.slice L.lets.a L.lets.n L.lets.c,.slice Z a7 a6,pV w.heap.size 20,.slice L.crops.a L.crops.n L.crops.c,.slice H F G,pV w.heap.size 21,.slice L.reaches.a L.reaches.n L.reaches.c,.slice m y l,pV w.heap.size 22,.slice L.farms.a L.farms.n L.farms.c,.slice S nfarms T,pV w.heap.size 19,pV w.heap.size 20,pV w.heap.size 21,pV w.heap.size 22,pV w.heap.size 23,.slice L.rots.a L.rots.n L.rots.c,.slice a8 nrots Y,pV w.heap.size 24,.slice L.rights.a L.rights.n L.rights.c,.slice I nrights J,pV w.heap.size 25,.slice L.duties.a L.duties.n L.duties.c,.slice P nduties R,pV w.heap.size 23,pV w.heap.size 24,pV w.heap.size 25,pV w.heap.size 23,.slice a8 nrots Y,iV (nrots:Int),iV (i:Int),.bool false,u39,u40,u41,u42,u43,u44,u45,u46,u47,u48,u49,u50,u51,u52,.func (.func 79) #[] #[pV wr.heap.size 0],.func (.func 89) #[] #[pV (wr.heap.size+1) 0],pV b o,iV lt,undef,undef,undef,undef],defers:=[]})
    OR.stays (fun _ _ _ _ _ _ h=>h.elim) (fun _ _ _ _ _ _ h=>h.elim) ?_ ?_ (fun _ _ _ h=>h.elim) (fun _ h=>by cases h) (OR.start W4 Lc x) ?_ ?_ ?_ (fun _ _ _ _ _ _ h=>h.elim) (fun _ _ _ _ _ _ h=>h.elim)
   ·exact fun a k O W O' W' h hz ho ht hu hk hO=>⟨OR.stays k O W O' W' h.1 hz ho ht hu hk hO,h.2⟩
   ·intro k O W hJ
    refine fs.o.heads (fun b q hq=>by obtain ⟨t,ty,b5⟩:=hq;exact IG b8.o hJ ty (by rw[b5];decide)) ?_
    rw[bo.o,Ag (hJ.old _ (by have:=cm.o;omega) (fun j o lt _ hp=>by have:=(ch.o j _ o lt hp).2;omega))]
    exact ga.o
   ·intro k hk O W lo hJ hO hl _
    obtain ⟨b,o,lt,hp⟩:=TF HA.o hk
    have he:(Cd Lc)[k]=#[pV b o,iV lt]:=by
     unfold GR at hp
     rw[yk hk] at hp
     exact yh hp
    rw[he]
    have dq:=yb hJ;have ed:=yb hp
    clear hJ hO hl hp he
    gi_wp2
    first
    |exact ⟨BL.refl _ _,dq.o,b,o,lt,ed.o,rfl⟩
    |(rename_i hK;exact hK _ _ ⟨BL.refl _ _,dq.o,b,o,lt,ed.o,rfl⟩)
    |(rename_i hK _;exact hK _ _ ⟨BL.refl _ _,dq.o,b,o,lt,ed.o,rfl⟩)
   ·rintro k hk O W lo a1 hl f3 f4 ⟨hJ,b,o,lt,hp,rfl⟩
    have eg:k < (AN x).length:=by rw[<-HA.o.length];exact hk
    obtain ⟨M,hM,cs,hr,hv⟩:=hJ.read b8.o hp eg
    obtain ⟨t,ht,_⟩:=b8.o.epos k b o lt hp
    have hf:=ch.o k b o lt hp
    have ca:=cm.o
    have bx:W.cell? (aV wr.heap.size 0)=some (.func (.func 79) #[] #[pV wr.heap.size 0]):=(Ag (hJ.old _ (by omega) (fun j o lt _ hp=>by have:=(ch.o j _ o lt hp).2;omega))).trans g5.o
    have f8:=Tt M wr.heap.size (AN x)[k].1 b o t cs W hv hr (hJ.ty b t ht) (gm.o _ (yz eg)) (fun c hc=>by
     rcases hM c hc with h1|h1
     ·have h2:=(db.o c h1);have h3:=hJ.size;omega
     ·omega) (by omega) bx
    have g8:=yb f8
    have dj:=yb (fun w3=>OR.next (w':=w3) b8.o hJ hp eg f4)
    clear hM hr hv ht hf ca f8 hJ hp f4 hl f3
    gi_wp2_with fail
    refine ⟨trivial,zq (CallsIn.inRound lo (za.2 g8.o)) ?_⟩
    rintro e w3 ⟨rfl,b5⟩
    have fg:=yb (dj.o w3 b5)
    clear b5
    gi_wp2_with fail
    first
    |exact ⟨fg.o.2,fg.o.1⟩
    |fail
   ·rintro - D O W hD g3 hJ fi
    simp only[Exit.inBlock,Exit.then]
    have ca:=cm.o
    have d6:=dk.o
    have gj:=hJ.size
    have eu:Cy (fun g=>w.heap.size<=g∧g≠w.heap.size+1) (fun _ _ _ _=>True) (RV W) W Lc x:=fs.o.imp (fun b t _ ht=>hJ.ty b t ht) (fun b q _ hq=>by obtain ⟨t,ty,b5⟩:=hq;exact IG b8.o hJ ty (by rw[b5];decide)) (fun _ _ _ _ _ _ _=>trivial) (fun to r b q _ hq hr=>by
     obtain ⟨t,ty,h1,h2⟩:=hq
     exact ⟨hr.1,(IG b8.o hJ ty (by rw[h1];decide)).trans hr.2.1,(IG b8.o hJ ty (by rw[h2];decide)).trans hr.2.2⟩)
    have e9:=eu.told (V6 (B:=fun b=>w.heap.size+2<=b∧b≠D) HA.o b8.o hJ (fun b hb hO=>⟨by omega,fun e=>hO (e▸g3)⟩))
    have fe:Cy (fun g=>w.heap.size<=g∧g≠w.heap.size+1) (EV (fun g=>w.heap.size<=g∧g≠w.heap.size+1) W) (RV W) W Lc x:=e9.imp (fun _ _ _ h=>h) (fun _ _ _ _=>rfl) (fun lt e b o _ _ hE=>by obtain ⟨c,h1,h2⟩:=hE;exact ⟨c,h1,h2.exV (fun b hb _=>by have h3:=hb.1;exact ⟨by omega,by omega⟩)⟩) (fun _ _ _ _ _ _ h=>h)
    obtain ⟨cs,b5,dn,fy⟩:=fe.srcV
    rw[bo.o] at dn
    have df:=NK fy
    have ct:∀j o lt,¬ GR Lc j (w.heap.size+1) o lt:=fun j o lt hp=>(IF HA.o hp).1.2 rfl
    have fo:W.heap[w.heap.size+1]?=some (.cells #[.string ⟨#[]⟩,iV 0,iV 0,iV 0,.string ⟨#[]⟩,iV 0,.slice none 0 0,iV 0,iV 0,iV 0,.string ⟨#[]⟩,iV 0,.slice none 0 0,iV 0,iV 0,iV 0,.string ⟨#[]⟩,iV 0,.slice none 0 0,.slice none 0 0,.slice none 0 0,.slice none 0 0,.slice none 0 0,.slice none 0 0,.slice none 0 0,.slice none 0 0] 35 (0,0)):=(hJ.old _ (by omega) (fun j o lt _=>ct j o lt)).trans ((cw.o.block _ (by omega)).trans fl.o)
    have e7:Hid ((Try.prog.info? 35).map (·.size)=some cs.length):=yb (by rw[b5];kernel_rfl)
    have fv:Hid ((Try.prog.info? 35).map (·.size)=some cs.toArray.size):=yb (by rw[yD];exact e7.o)
    have da:=yb b5;have g4:=yb dn;have dg:=yb df;have em:=yb fo;have gh:=yb e9;have ew:=yb fi;have HD:=yb hD;have d7:=yb hJ
    clear eu e9 fe b5 dn fy df ct fo fi hD hJ g3 ca d6 gj
    refine Ah (A7 ?_)
    go_wp2_with (first|(refine ym rfl 35 _ rfl w.heap.size 0 rfl cs _ g4.o qM rfl e7.o ?_)|(refine yZ rfl 35 _ _ rfl (w.heap.size+1) cs.toArray rfl rfl 35 _ em.o fv.o (by simp[da.o]) (yV dg.o) ?_))
    refine A7 ?_
    go_wp2
    have ci:D≠w.heap.size+1:=by have:=HD.o;have:=cm.o;have:=dk.o;omega
    have gk:(W.setRow (w.heap.size+1) cs.toArray).heap[D]?=some (.deferred (some [])):=by
     simp only[World.setRow,yR,yu (xq ci)]
     exact ew.o
    have ce:∀ob b,b≠w.heap.size+1->b≠D->((W.setRow (w.heap.size+1) cs.toArray).putObj D ob).heap[b]?=W.heap[b]?:=fun ob b h1 h2=>by
     rw[World.putObj_heap_other h2]
     simp only[World.setRow,yR,yu (xq h1)]
    have g6:∀ob,((W.setRow (w.heap.size+1) cs.toArray).putObj D ob).heap[w.heap.size+1]?=some (.cells cs.toArray 35 (0,0)):=fun ob=>by
     rw[World.putObj_heap_other (xq ci)]
     simp[World.setRow,yR,em.o]
    have go:∀ob,((W.setRow (w.heap.size+1) cs.toArray).putObj D ob).rangeAt (w.heap.size+1) 0 cs:=fun ob=>by
     have:=yU (g6 ob) 0 cs.length
     simpa using this
    have dt:∀ob,MW w x (.returned (.agg cs.toArray)) ((W.setRow (w.heap.size+1) cs.toArray).putObj D ob):=fun ob=>by
     have gt:=HD.o
     have ca:=cm.o
     have d6:=dk.o
     have d9:∀b t,b≠w.heap.size+1->Ty W b t->b≠D:=fun b t _ ht e=>by
      obtain ⟨c,hc⟩:=ht
      rw[e,ew.o] at hc
      cases hc
     refine ⟨Lc,cs,rfl,da.o,dg.o,⟨d7.o.os.trans (cw.o.os.trans cv.o.os),d7.o.tape.trans (cw.o.tape.trans cv.o.tape),d7.o.output.trans (cw.o.output.trans cv.o.output),?_,fun b hb=>?_⟩,bo.o,?_,?_⟩
     ·have h1:=d7.o.size
      have h2:((W.setRow (w.heap.size+1) cs.toArray).putObj D ob).heap.size=W.heap.size:=by simp[World.setRow]
      omega
     ·rw[ce ob b (by omega) (by omega),d7.o.old b (by omega) (fun j o lt _ hp=>by have:=(ch.o j b o lt hp).1;omega),cw.o.block b (by omega)]
      exact cv.o.block b hb
     ·rw[bo.o]
      exact A2 g4.o (ce ob _ (by omega) (by omega))
     ·refine gh.o.imp (fun b t hq ht=>?_) (fun b q hq hp=>?_) (fun lt e b o hq hp hE=>?_) (fun to r b o hq hp hr=>?_)
      ·have h1:b≠w.heap.size+1:=by rcases hq with hq|hq;exact hq.2;have:=bo.o;omega
       exact ht.same (ce ob b h1 (d9 b t h1 ht))
      ·have h1:b≠w.heap.size+1:=by rcases hq with hq|hq;exact hq.2;have:=bo.o;omega
       obtain ⟨t,ty,_⟩:=hp
       exact Ag (ce ob b h1 (d9 b t h1 ty))
      ·have h1:b≠w.heap.size+1:=by rcases hq with hq|hq;exact hq.2;have:=bo.o;omega
       obtain ⟨t,ty,_⟩:=hp
       obtain ⟨c,c1,c2⟩:=hE
       exact ⟨c,A2 c1 (ce ob b h1 (d9 b t h1 ty)),c2.same (fun b hb _=>hb.1) (fun b hb _=>ce ob b (by have:=hb.1;omega) hb.2)⟩
      ·have h1:b≠w.heap.size+1:=by rcases hq with hq|hq;exact hq.2;have:=bo.o;omega
       obtain ⟨t,ty,_⟩:=hp
       have h2:=ce ob b h1 (d9 b t h1 ty)
       exact ⟨hr.1,(Ag h2).trans hr.2.1,(Ag h2).trans hr.2.2⟩
    exact ⟨by simp,.inl ⟨_,_,rfl,run_takeDeferred gk,⟨_,Hk rfl rfl (qg _ (w.heap.size+1) 0 35 cs _ (go _) qM rfl e7.o),dt _⟩⟩⟩
end Go.Proofs.Ytghepahgkcigpaa
