/- Parts of the proof, in short words: Of Og Ya Nh Pa Pb Pc Pd Va Yb Oh Ni -/
import Derived.Test.YtghepahgkcigpaaQ0
import Derived.Test.YtghepahgkcigpaaQ1
import Derived.Deep.Cut
import Derived.Deep.RegionHeld2
import Derived.StillTailTactics
import Derived.Test.YtghepahgkcigpaaQ2
import Derived.Lib.SliceRun
import Derived.Deep.RegionHeld3
import Derived.BigFrameIn
set_option maxRecDepth 100000
set_option maxHeartbeats 32000000
set_option linter.unusedSimpArgs false
namespace Go.Proofs.Ytghepahgkcigpaa
open Go.RowKit
structure VF (n l By Bi B0:Nat) (O:Nat->Prop) (X:List Us) (w0:World) (C:Addr->Prop) (J:Nat->(Nat->Prop)->World->Prop) (Jx:(Nat->Prop)->World->Prop) (Jp:List PanicEntry->(Nat->Prop)->World->Prop):Prop where
 stays:Ep J
 hd:∀k O W,J k O W->∀p,C p->W.cell? p=w0.cell? p
 hdx:∀O W,Jx O W->∀p,C p->W.cell? p=w0.cell? p
 round:∀k (hk:k < X.length) W,Kr J O B0 l By Bi k W->YieldAt Fence.wide (n - 1) Try.prog l X[k].v W (Ln J Jx Jp O (k+1) W)
theorem QF(n:Nat)(hn:1<=n)(l By Bi B0:Nat)(lt:Int)(hlt:0<=lt∧lt<=1000000)(O:NP)(X:List Us)(w0:World)(C:Addr->Prop)(J:Nat->NP->World->Prop)(Jx:NP->World->Prop)(Jp:List PanicEntry->NP->World->Prop)
 (hc:VF n l By Bi B0 O X w0 C J Jx Jp):∀(e:Ex) (b o:Nat) (pre:List Us) (W:World),Kr J O B0 l By Bi pre.length W->SH w0 C e b o->(∃post,X=pre++((CS w0 lt e b o).1++post))->
   ((CS w0 lt e b o).2=false->∀W',J (pre.length+(CS w0 lt e b o).1.length) O W'->Jp (Fx 170) O W')->
   Calls Try.prog 82 #[.pointer (some ⟨b,o,none⟩),.int .i64 lt,.pointer (some ⟨By,0,none⟩),.pointer (some ⟨Bi,0,none⟩)] W (P9 J Jx Jp O (pre.length+(CS w0 lt e b o).1.length) (CS w0 lt e b o).2 W):=by
 refine I4 fun op nn u rn ri args ih=>?_
 intro b o pre W hi hR hX hbad
 rw[SH] at hR
 obtain ⟨a,cap,⟨c0,C0⟩,⟨c5,C5⟩,hl,hrow⟩:=hR
 have HC:=ya hc
 have HI:=ya hi
 have HX:=ya hX
 have HBad:=ya hbad
 have IH:=ya ih
 have HRow:=ya hrow
 have HC5:=ya C5
 have w0c:=(hc.hd _ _ _ hi.j _ C0).trans c0
 have w5c:=(hc.hd _ _ _ hi.j _ C5).trans c5
 have y0:=hi.y.2
 have H5:=ya c5
 have a0:(W.alloc (.cells #[.pointer (some ⟨b,o+3,none⟩),.int .i64 0,.int .i64 0] 106)).cell? ⟨b,o,none⟩=some (.int .i64 op):=((yc W.heap.size W).alloc (ye _) _).cell (p:=⟨b,o,none⟩) (zP W _ w0c) |>.trans w0c
 have HE:Hid (CS w0 lt (.mk op nn u rn ri args) b o=if Kq op args.length then (⟨b,o+3,KP op lt,P0 op lt,rn,ri⟩::(Ce w0 lt args (some (.slice a args.length cap)) 0).1,(Ce w0 lt args (some (.slice a args.length cap)) 0).2) else ([],false)):=ya (by rw[CS,c5])
 generalize hP:CS w0 lt (.mk op nn u rn ri args) b o=P at*
 clear hP
 generalize hm:args.length=m at*
 have Hm:=ya hm
 clear hm hc hi hX hbad ih hrow C0 C5 c0 c5
 by_cases h1:1<=op
 rotate_left
 ·have HF:Hid (P=([],false)):=ya (by rw[HE.o];simp[Kq,h1])
  go_enter Try.func82,Try.ntmps82
  go_wp2_with (first|(go_at_call 50;refine (D7 _ _).mono ?_;rintro e w5 ⟨rfl,rfl⟩))
  exact ⟨rfl,.inr ⟨_,rfl,HBad.o (by rw[HF.o]) _ (by rw[HF.o];exact HI.o.j),Cd.refl _ _⟩⟩
 by_cases h6:op<=6
 rotate_left
 ·have HF:Hid (P=([],false)):=ya (by rw[HE.o];simp[Kq,h6])
  go_enter Try.func82,Try.ntmps82
  go_wp2_with (first|(go_at_call 50;refine (D7 _ _).mono ?_;rintro e w5 ⟨rfl,rfl⟩))
  exact ⟨rfl,.inr ⟨_,rfl,HBad.o (by rw[HF.o]) _ (by rw[HF.o];exact HI.o.j),Cd.refl _ _⟩⟩
 go_enter Try.func82,Try.ntmps82
 go_upto_if 30 with (first|(go_at_call 50;refine (Df _ _).mono ?_;rintro e w5 ⟨rfl,rfl⟩))
 go_cut [31] from 22 (fun _ w'=>Hid (Below w5.heap.size w5 w'∧w'.heap[w5.heap.size]?=some (.cells #[.pointer (some ⟨b,o+3,none⟩),.int .i64 (KP op lt),.int .i64 (P0 op lt)] 106 (0,0))))
 case first=>
  go_wp2
  all_goals
   go_meet
   case rel=>exact ya ⟨(yc _ _).alloc (ye _) _,by rw[World.alloc_heap_new];simp_all[KP,P0]<;>omega⟩
 clear a0
 have HBc:=ya hcut.o.1
 have HUc:=ya hcut.o.2
 have b0:=(HBc.o.cell (p:=⟨b,o,none⟩) (zP w5 _ w0c)).trans w0c
 have b5:=(HBc.o.cell (p:=⟨b,o+5,none⟩) (zP w5 _ w5c)).trans w5c
 have HIc:=ya (HI.o.below HC.o.stays HBc.o)
 clear hcut w0c w5c
 go_upto_if 42 with fail
 go_cut [31] from 22 (fun _ w'=>Hid (w'=wc∧Kq op m=true))
 case first=>
  by_cases h3:3<=op
  ·by_cases h2:m=2
   ·have hb2:((m:Int)==2)=true:=by simp;omega
    have HOk:Hid (Kq op m=true):=ya (by simp[Kq,h1,h6,h3,h2])
    clear h2
    go_wp2_with (first|(go_at_call 50;refine (Df _ _).mono ?_;rintro e w6 ⟨rfl,rfl⟩))
    go_meet
    case rel=>exact ya ⟨rfl,HOk.o⟩
   ·have hb2:((m:Int)==2)=false:=by simp;omega
    have HF:Hid (P=([],false)):=ya (by rw[HE.o];simp[Kq,h3,h2])
    clear h2
    go_wp2_with (first|(go_at_call 50;refine (D7 _ _).mono ?_;rintro e w6 ⟨rfl,rfl⟩))
    exact ⟨rfl,.inr ⟨_,rfl,HBad.o (by rw[HF.o]) _ (by rw[HF.o];exact HIc.o.j),HI.o.Xl HBc.o⟩⟩
  ·by_cases h2:m=0
   ·have hb2:((m:Int)==0)=true:=by simp;omega
    have HOk:Hid (Kq op m=true):=ya (by simp[Kq,h1,h6,h3,h2])
    clear h2
    go_wp2_with (first|(go_at_call 50;refine (Df _ _).mono ?_;rintro e w6 ⟨rfl,rfl⟩))
    go_meet
    case rel=>exact ya ⟨rfl,HOk.o⟩
   ·have hb2:((m:Int)==0)=false:=by simp;omega
    have HF:Hid (P=([],false)):=ya (by rw[HE.o];simp[Kq,h3,h2])
    clear h2
    go_wp2_with (first|(go_at_call 50;refine (D7 _ _).mono ?_;rintro e w6 ⟨rfl,rfl⟩))
    exact ⟨rfl,.inr ⟨_,rfl,HBad.o (by rw[HF.o]) _ (by rw[HF.o];exact HIc.o.j),HI.o.Xl HBc.o⟩⟩
 obtain ⟨rfl,hok⟩:=hcut.o
 have HP:Hid (P=(⟨b,o+3,KP op lt,P0 op lt,rn,ri⟩::(Ce w0 lt args (some (.slice a m cap)) 0).1,(Ce w0 lt args (some (.slice a m cap)) 0).2)):=ya (by rw[HE.o,hok];rfl)
 have hk:pre.length < X.length:=by
  obtain ⟨post,hx⟩:=HX.o
  rw[hx,HP.o];simp
 have hxk:X[pre.length].v=#[.agg #[.pointer (some ⟨b,o+3,none⟩),.int .i64 (KP op lt),.int .i64 (P0 op lt)]]:=by
  obtain ⟨post,hx⟩:=HX.o
  have:X[pre.length]?=some ⟨b,o+3,KP op lt,P0 op lt,rn,ri⟩:=by rw[hx,HP.o];simp
  rw[yl hk] at this
  rw[yh this];rfl
 obtain ⟨yfn,ytmps,yassign,ybody,hy,hyR⟩:=HC.o.round pre.length hk _ HIc.o
 rw[hxk] at hy
 have HyR:=ya hyR
 have q0:wc.cell? ⟨w5.heap.size,0,none⟩=some (.pointer (some ⟨b,o+3,none⟩)):=by simp[World.cell?,HUc.o]
 have q1:wc.cell? ⟨w5.heap.size,1,none⟩=some (.int .i64 (KP op lt)):=by simp[World.cell?,HUc.o]
 have q2:wc.cell? ⟨w5.heap.size,2,none⟩=some (.int .i64 (P0 op lt)):=by simp[World.cell?,HUc.o]
 have q3:=HIc.o.y.2
 clear hk hxk hyR hcut hok
 go_upto_region 10 with fail
 refine (wpIn_wide (n:=n)).1 ?_
 gi_wp2
 refine HyR.o.mono ?_
 rintro e W3 (⟨rfl,hj,hs⟩|⟨rfl,hx,hs⟩|⟨ch,rfl,hp,hs⟩)
 rotate_left
 ·have HX3:=ya hx
  have HS3:=ya ((HI.o.Xl HBc.o).trans hs)
  clear hx hs q0 q1 q2 q3 hy b0 b5
  gi_wp2
  go_wp2
  go_ret
  exact .inl ⟨false,rfl,HS3.o,.inr ⟨rfl,HX3.o⟩⟩
 ·exact ⟨rfl,.inr ⟨ch,rfl,hp,(HI.o.Xl HBc.o).trans hs⟩⟩
 have HI3:=ya (HIc.o.same hj hs)
 have HS3:=ya ((HI.o.Xl HBc.o).trans hs)
 have d5:=(HC.o.hd _ _ _ hj _ HC5.o).trans H5.o
 clear hj hs q0 q1 q2 q3 hy b0 b5
 gi_wp2
 go_wp2
 clear d5
 go_loopw [66] (fun iv wr=>∃i:Nat,iv=.int .i64 i∧i<=m∧Hid (Kr J O B0 l By Bi (pre.length+1+(Ce w0 lt (args.take i) (some (.slice a m cap)) 0).1.length) wr)∧Hid (Cd O w5 wr)∧Hid ((Ce w0 lt (args.take i) (some (.slice a m cap)) 0).2=true)) (fun iv _=>m - (intOf iv).toNat)
 case atStart=>exact ⟨0,rfl,yv _,HI3,HS3,ya rfl⟩
 case round=>
  obtain ⟨i,rfl,hi,HIr,HSr,HOr⟩:=hrel
  by_cases hlt:i < m
  ·have hil:i < args.length:=by rw[Hm.o];exact hlt
   obtain ⟨b',o',rfl,hex⟩:=P8 HRow.o i hil
   rw[yD] at hex
   have hn1:=SI hil HOr.o
   have HNx:=ya hn1
   have HXs:Hid (∃post,X=(pre++(⟨b,o+3,KP op lt,P0 op lt,rn,ri⟩::(Ce w0 lt (args.take i) (some (.slice (some ⟨b',o',none⟩) m cap)) 0).1))++((CS w0 lt args[i] b' (o'+i*6)).1++post)):=ya (by
    obtain ⟨post,hx⟩:=HX.o
    obtain ⟨post2,hp2⟩:=P7 (w:=w0) (lt:=lt) (b:=b') (o:=o') (n:=m) (c:=cap) (args.take (i+1)) (args.drop (i+1)) 0
    rw[xJ,hn1] at hp2
    refine ⟨post2++post,?_⟩
    rw[hx,HP.o]
    simp only[hp2]
    simp)
   have HBs:Hid ((CS w0 lt args[i] b' (o'+i*6)).2=false->∀W',J ((pre++(⟨b,o+3,KP op lt,P0 op lt,rn,ri⟩::(Ce w0 lt (args.take i) (some (.slice (some ⟨b',o',none⟩) m cap)) 0).1)).length+(CS w0 lt args[i] b' (o'+i*6)).1.length) O W'->Jp (Fx 170) O W'):=ya (fun hf W' hj=>by
    have hst:=Nj (w:=w0) (lt:=lt) (b:=b') (o:=o') (n:=m) (c:=cap) (args.take (i+1)) (args.drop (i+1)) 0 (by rw[hn1];exact hf)
    rw[xJ,hn1] at hst
    refine HBad.o (by rw[HP.o];simp only[hst];exact hf) W' ?_
    rw[HP.o]
    simp only[hst]
    have e1:pre.length+(⟨b,o+3,KP op lt,P0 op lt,rn,ri⟩::((Ce w0 lt (args.take i) (some (.slice (some ⟨b',o',none⟩) m cap)) 0).1++(CS w0 lt args[i] b' (o'+i*6)).1)).length=(pre++(⟨b,o+3,KP op lt,P0 op lt,rn,ri⟩::(Ce w0 lt (args.take i) (some (.slice (some ⟨b',o',none⟩) m cap)) 0).1)).length+(CS w0 lt args[i] b' (o'+i*6)).1.length:=by simp;omega
    rw[e1];exact hj)
   have HCl:=ya (fun (W:World) (hW:Kr J O B0 l By Bi (pre.length+1+(Ce w0 lt (args.take i) (some (.slice (some ⟨b',o',none⟩) m cap)) 0).1.length) W)=>IH.o args[i] (yw hil) b' (o'+i*6) (pre++(⟨b,o+3,KP op lt,P0 op lt,rn,ri⟩::(Ce w0 lt (args.take i) (some (.slice (some ⟨b',o',none⟩) m cap)) 0).1)) W (by
    have e1:(pre++(⟨b,o+3,KP op lt,P0 op lt,rn,ri⟩::(Ce w0 lt (args.take i) (some (.slice (some ⟨b',o',none⟩) m cap)) 0).1)).length=pre.length+1+(Ce w0 lt (args.take i) (some (.slice (some ⟨b',o',none⟩) m cap)) 0).1.length:=by simp;omega
    rw[e1];exact hW) hex HXs.o HBs.o)
   have HNl:Hid ((pre++(⟨b,o+3,KP op lt,P0 op lt,rn,ri⟩::(Ce w0 lt (args.take i) (some (.slice (some ⟨b',o',none⟩) m cap)) 0).1)).length+(CS w0 lt args[i] b' (o'+i*6)).1.length=pre.length+1+(Ce w0 lt (args.take (i+1)) (some (.slice (some ⟨b',o',none⟩) m cap)) 0).1.length):=ya (by rw[hn1];simp;omega)
   have HNo:Hid ((Ce w0 lt (args.take (i+1)) (some (.slice (some ⟨b',o',none⟩) m cap)) 0).2=(CS w0 lt args[i] b' (o'+i*6)).2):=ya (by rw[hn1])
   have HIr1:=ya (HIr.o.below HC.o.stays ((yc wr.heap.size wr).drew))
   have hki:(i:Int) < (m:Int):=by omega
   have e5:=(HC.o.hd _ _ _ HIr.o.j _ HC5.o).trans H5.o
   have eB:=HIr.o.i.2
   have HS1:Hid (wr.drew.cell? ⟨Bi,0,none⟩=some (.func (.func 82) #[] #[.pointer (some ⟨By,0,none⟩),.pointer (some ⟨Bi,0,none⟩)])∧wr.drew.cell? ⟨b,o+5,none⟩=some (.slice (some ⟨b',o',none⟩) m cap)):=ya ⟨HIr1.o.i.2,(HC.o.hd _ _ _ HIr1.o.j _ HC5.o).trans H5.o⟩
   have HSd:=ya (HSr.o.trans (HIr.o.Xl ((yc wr.heap.size wr).drew)))
   clear hn1 hex
   go_wp2_with fail
   go_region_held2 (fun w'=>w'.cell? ⟨Bi,0,none⟩=some (.func (.func 82) #[] #[.pointer (some ⟨By,0,none⟩),.pointer (some ⟨Bi,0,none⟩)])∧w'.cell? ⟨b,o+5,none⟩=some (.slice (some ⟨b',o',none⟩) m cap)) (first|exact HS1.o|exact HS2.o)
    (first|(go_at_call 82;refine (HCl.o _ HIr1.o).mono ?_;rintro e w2 (⟨r,rfl,hs2,hr⟩|⟨ch,rfl,hp,hs2⟩);rotate_left;exact ⟨rfl,.inr ⟨ch,rfl,hp,HSd.o.trans hs2⟩⟩;have HS2:=ya (And.intro (DV hs2 HIr1.o.i.1 HIr1.o.i.2) (hr.elim (fun h=>(HC.o.hd _ _ _ h.2.2 _ HC5.o).trans H5.o) (fun h=>(HC.o.hdx _ _ h.2 _ HC5.o).trans H5.o)));have HR:=ya hr;have HSw:=ya hs2;clear hr hs2))
   rcases HR.o with ⟨rfl,hok2,hj2⟩|⟨rfl,hx2⟩
   ·have HJ2:=ya hj2
    have HO2:=ya hok2
    clear hok2 hj2 HR e5 eB
    go_wp2
    exact ⟨⟨i+1,by push_cast;rfl,by omega,ya (by rw[<-HNl.o];exact HIr1.o.same HJ2.o HSw.o),ya (HSd.o.trans HSw.o),ya (by rw[HNo.o];exact HO2.o)⟩,by simp[intOf];omega⟩
   ·have HX2:=ya hx2
    clear hx2 HR e5 eB
    go_wp2
    go_ret
    exact .inl ⟨false,rfl,HSd.o.trans HSw.o,.inr ⟨rfl,HX2.o⟩⟩
  ·obtain rfl:i=m:=by omega
   have HFin:Hid (P.2=true∧J (pre.length+P.1.length) O wr):=ya (by
    have h1:=HOr.o
    have h2:=HIr.o.j
    rw[<-Hm.o,yx] at h1 h2
    rw[HP.o]
    simp only[yC]
    rw[Hm.o] at h1 h2
    exact ⟨h1,by rw[show pre.length+((Ce w0 lt args (some (.slice a i cap)) 0).1.length+1)=pre.length+1+(Ce w0 lt args (some (.slice a i cap)) 0).1.length by omega];exact h2⟩)
   have hki:decide ((i:Int) < (i:Int))=false:=by simp
   go_wp2
   go_ret
   exact .inl ⟨true,rfl,HSr.o,.inl ⟨rfl,HFin.o.1,HFin.o.2⟩⟩
def EG(op n u:Int)(rn:ByteArray)(ri:Int)(m:Nat):Bool:=decide (op=0)&&(decide (n=0)&&(decide (u=0)&&(decide (rn.size=0∧ri=0)&&decide (m=0))))
theorem Dg(s:ByteArray):s.size=0↔s.toList=[]:=by
 rw[zC,<-yX,GX]
theorem KQ(op b u:Int)(rn:ByteArray)(ri:Int)(a:Option Addr)(m cap:Nat)(w:World):
  Calls Try.prog 83 #[.agg #[.int .i64 op,.int .i64 b,.int .i64 u,.string rn,.int .i64 ri,.slice a m cap]] w fun e w'=>e=.returned (.bool (EG op b u rn ri m))∧Below w.heap.size w w':=by
 by_cases h0:op=0
 ·by_cases h1:b=0
  ·by_cases h2:u=0
   ·subst h0 h1 h2
    go_enter Try.func83,Try.ntmps83
    go_wp2
    ·rename_i h1 h2
     go_ret
     refine ⟨Au ?_,(yc _ _).alloc (ye _) _⟩
     simp only[EG,xS (show rn.size=0∧ri=0 from ⟨(Dg rn).2 h1,h2⟩)]
     rw[zu];simp
    ·rename_i h1 h2
     go_ret
     refine ⟨Au ?_,(yc _ _).alloc (ye _) _⟩
     simp only[EG,zH (show ¬ (rn.size=0∧ri=0) from fun h=>h2 h.2)]
     simp
    ·rename_i h1
     go_ret
     refine ⟨Au ?_,(yc _ _).alloc (ye _) _⟩
     simp only[EG,zH (show ¬ (rn.size=0∧ri=0) from fun h=>h1 ((Dg rn).1 h.1))]
     simp
   ·have c:(u==0)=false:=by simpa using h2
    subst h0 h1
    go_enter Try.func83,Try.ntmps83
    go_wp2
    go_ret
    exact ⟨Au (by simp[EG,h2]),(yc _ _).alloc (ye _) _⟩
  ·have c:(b==0)=false:=by simpa using h1
   subst h0
   go_enter Try.func83,Try.ntmps83
   go_wp2
   go_ret
   exact ⟨Au (by simp[EG,h1]),(yc _ _).alloc (ye _) _⟩
 ·have c:(op==0)=false:=by simpa using h0
  go_enter Try.func83,Try.ntmps83
  go_wp2
  go_ret
  exact ⟨Au (by simp[EG,h0]),(yc _ _).alloc (ye _) _⟩
def Cx(w:World)(X:Value)(n size:Nat)(cells:LV):Prop:=
 cells.length=n*size∧(∀u∈cells,u.oneCell'=true)∧∃a cap,X=.slice a n cap∧(n=0∨∃b o,a=some ⟨b,o,none⟩∧b < w.heap.size∧∀j u,cells[j]?=some u->w.cell? ⟨b,o+j,none⟩=some u)
theorem FZ{t e:TypeId}{i:TypeInfo}{size:Nat}(f:Try.prog.underlying t=some (.slice e))(hi:Try.prog.info? e=some i)(w:World)(B:Nat)(ty:TypeId)(v:Value)(n:Nat)(xs:LV)(b:w.ownsRow B e size v n xs)(a:Option Addr)(c:Nat):
  (Builtin.append_ #[t,t] ty #[v,.slice a 0 c]).run Try.prog w=.ok v w:=by
 rcases b.2 with ⟨rfl,_⟩|⟨g,cap,j,rfl,_,_,d,h,_⟩
 ·cases a<;>simp[Builtin.append_,run_underlying f,sizeOf,typeInfo,hi,Builtin.lenOf,Builtin.firstCells,loadCells,loadCellsFrom]
 ·cases a<;>simp[Builtin.append_,run_underlying f,sizeOf,typeInfo,hi,Builtin.lenOf,Builtin.firstCells,storeCells,loadCells,loadCellsFrom,d]
theorem Iw{ops:Array Oper}{o:Oper}{a:Act}{K:Act->World->Prop}{Q:QT}{E:Prop}{W:World}{t e:TypeId}{q:TypeInfo}{z:Value}{size d:Nat}(S:Try.prog.underlying t=some (.slice e))(hi:Try.prog.info? e=some q)(J:q.zero=some z)(L:q.size=size)(H:q.bytes=d)(N:z.cells.size=size)(D:0 < size)(O:d<=64)
 (B:Nat)(M:o.guard=none)(s x:Operand)(R:o.op=.call {callee:=.builtin .append,args:=#[s,x],argTypes:=#[t,t]})(v:Value)(n:Nat)(xs:LV)(hs:a.eval s=v)(f:W.ownsRow B e size v n xs)
 (X:Value)(m:Nat)(y:LV)(U:a.eval x=X)(Y:Cx W X m size y)(w:n+m<=1000000)(l:B<=W.heap.size)
 (h:∀(A:Option Addr) (c:Nat) w',w'.ownsRow B e size (.slice A (n+m) c) (n+m) (xs++y)->W.grownBy w' v.ownBlock->K (a.put o.dst (.slice A (n+m) c)) w'):
  if Region.wanted o (yielded ops a.tmps)=true then Oper.wp Try.prog o a W K Q else E:=by
 have V:Region.wanted o (yielded ops a.tmps)=true:=by simp[Region.wanted,M]
 rw[yu V]
 obtain ⟨r,G,A,cap,rfl,k⟩:=Y
 by_cases P:m=0
 ·subst P
  obtain rfl:y=[]:=yX.1 (by simpa using r)
  have p:=FZ S hi W B o.type v n xs f A cap
  obtain ⟨va,C,rfl⟩:∃a c,v=.slice a n c:=by
   rcases f.2 with ⟨rfl,F⟩|⟨g,cap,I,rfl,_⟩
   ·exact ⟨none,0,by rw[F]⟩
   ·exact ⟨_,_,rfl⟩
  unfold Oper.wp
  simp[execOp,R,resolve,invoke,builtin,hs,U,p,Result.andThen]
  have T:=h va C W (by simpa using f) ⟨rfl,rfl,rfl,ye _,fun _ _ _=>rfl⟩
  rw[xG] at T
  exact T
 ·obtain ⟨b,off,rfl,hb,hc⟩:=k.resolve_left P
  refine qt W s x t R B e q z size d S hi J L H N D v n xs hs f (aV b off) m cap y U r (fun j u hj=>?_) G (by unfold maxLen;omega) (by
   have:(n+m)*d<=1000000*64:=Nat.mul_le_mul w O
   omega) l ?_
  ·rw[zx];exact hc j u hj
  ·intro v' w' i Z _
   obtain ⟨va,C,rfl⟩:∃a c,v'=.slice a (n+m) c:=by
    rcases i.2 with ⟨rfl,F⟩|⟨g,cap,I,rfl,_⟩
    ·exact ⟨none,0,by rw[F]⟩
    ·exact ⟨_,_,rfl⟩
   exact h va C w' i Z
def Bo(u:Us):LV:=[.pointer (some ⟨u.b,u.o,none⟩),.int .i64 u.to,.int .i64 u.at_]
def Dz(B:Nat)(w:World)(v:Value)(us:List Us):Prop:=w.ownsRow B 106 3 v us.length (us.flatMap Bo)
theorem SJ(B:Nat)(w:World):Dz B w (.slice none 0 0) []:=⟨rfl,.inl ⟨rfl,rfl⟩⟩
theorem Dw{ops:Array Oper}{o:Oper}{a:Act}{K:Act->World->Prop}{Q:QT}{E:Prop}{W:World}(B:Nat)(n:o.guard=none)(s x:Operand)(p:o.op=.call {callee:=.builtin .append,args:=#[s,x],argTypes:=#[151,151]})
 (v:Value)(us:List Us)(hs:a.eval s=v)(f:Dz B W v us)(X:Value)(b:List Us)(t:a.eval x=X)(r:Cx W X b.length 3 (b.flatMap Bo))(g:us.length+b.length<=1000000)(d:B<=W.heap.size)
 (h:∀(j:Option Addr) (c:Nat) w',Dz B w' (.slice j (us.length+b.length) c) (us++b)->W.grownBy w' v.ownBlock->K (a.put o.dst (.slice j (us.length+b.length) c)) w'):
  if Region.wanted o (yielded ops a.tmps)=true then Oper.wp Try.prog o a W K Q else E:=by
 have e:(Try.prog.info? 106).map (fun i=>(i.zero,i.size,i.bytes))=some (some (.agg #[.pointer none,iV 0,iV 0]),3,24):=by kernel_rfl
 obtain ⟨w,hi,l,m,k⟩:=info_parts e
 exact Iw Try.underlying151 hi l m k rfl (by decide) (by decide) B n s x p v us.length _ hs f X b.length _ t r g d (fun j c w' q u=>h j c w' (by
  unfold Dz
  rw[yi,zD]
  exact q) u)
theorem Of{o:Oper}{a:Act}{K:Act->World->Prop}{Q:QT}{W:World}(B:Nat)(f:o.guard=none)(s x:Operand)(j:o.op=.call {callee:=.builtin .append,args:=#[s,x],argTypes:=#[151,151]})
 (v:Value)(us:List Us)(hs:a.eval s=v)(e:Dz B W v us)(X:Value)(b:List Us)(m:a.eval x=X)(k:Cx W X b.length 3 (b.flatMap Bo))(g:us.length+b.length<=1000000)(d:B<=W.heap.size)
 (h:∀(i:Option Addr) (c:Nat) w',Dz B w' (.slice i (us.length+b.length) c) (us++b)->W.grownBy w' v.ownBlock->K (a.put o.dst (.slice i (us.length+b.length) c)) w'):Oper.wp Try.prog o a W K Q:=by
 have l:=Dw (ops:=#[]) (E:=True) (Q:=Q) B f s x j v us hs e X b m k g d h
 rwa [yu (by simp[Region.wanted,f])] at l
theorem JX:∀us:List Us,(us.flatMap Bo).length=us.length*3
 |[]=>rfl
 |x::r=>by rw[yY,yi,JX r,yC];simp only[Bo,yC,yK];omega
theorem I8{w':World}{us:List Us}{b:Nat}(hb:w'.heap[b]?=some (.cells (us.flatMap Bo).toArray 106 (0,0)))(c:Nat):Cx w' (.slice (some ⟨b,0,none⟩) us.length c) us.length 3 (us.flatMap Bo):=by
 refine ⟨?_,?_,some (aV b 0),c,rfl,.inr ⟨b,0,rfl,(yd.1 hb).1,fun j u e=>?_⟩⟩
 ·exact JX us
 ·intro u d
  obtain ⟨x,_,a⟩:=yQ.1 d
  simp[Bo] at a
  rcases a with rfl|rfl|rfl<;>rfl
 ·simp only[World.cell?,hb]
  simpa using e
theorem JK(c:UInt8)(w:World):
  Calls Try.prog 93 #[.int .u8 (c.toNat:Int)] w fun e w'=>e=.returned (.bool (CP c))∧w=w':=by
 go_enter Try.func93,Try.ntmps93
 go_wp2
 all_goals
  go_ret
  exact ⟨Au (by rw[zu];simp[CP];omega),rfl⟩
theorem QG(c:UInt8)(w:World):
  Calls Try.prog 99 #[.int .u8 (c.toNat:Int)] w fun e w'=>e=.returned (.bool (I5 c))∧w=w':=by
 go_enter Try.func99,Try.ntmps99
 go_wp2
 all_goals
  go_ret
  exact ⟨Au (by rw[zu];simp[I5];omega),rfl⟩
theorem Pa(c:UInt8)(w:World):
  Calls Try.prog 94 #[.int .u8 (c.toNat:Int)] w fun e w'=>e=.returned (.bool (EK c))∧w=w':=by
 unfold EK
 generalize hl:CP c=lb
 have d:=ya hl;clear hl
 generalize a:I5 c=f
 have b:=ya a;clear a
 go_enter Try.func94,Try.ntmps94
 go_wp2_with (first|(go_at_call 93;refine (JK _ _).mono ?_;rintro e w' ⟨rfl,rfl⟩;rw[d.o])|(go_at_call 99;refine (QG _ _).mono ?_;rintro e w' ⟨rfl,rfl⟩;rw[b.o]))
 all_goals
  go_ret
  refine ⟨Au ?_,rfl⟩
  first
  |(simp_all;done)
  |(rw[zu];simp_all;omega)
theorem Pb(s:ByteArray)(w:World)(hs:s.size<=maxLen):
  Calls Try.prog 85 #[.string s] w fun e w'=>e=.returned (.bool (E2 s.data.toList))∧w=w':=by
 unfold maxLen at hs
 generalize hN:E2 s.data.toList=N
 have b:=ya hN;clear hN
 by_cases h0:0 < s.size
 ·by_cases c:s.size<=32
  ·generalize hl:CP s[0]=lb
   have f:=ya hl;clear hl
   cases lb
   ·go_enter Try.func85,Try.ntmps85
    go_wp2_with (first|(go_at_call 93;refine (JK _ _).mono ?_;rintro e w' ⟨rfl,rfl⟩;rw[f.o]))
    go_ret
    exact ⟨Au (by rw[<-b.o,KM h0 f.o]),rfl⟩
   ·go_enter Try.func85,Try.ntmps85
    go_wp2_with (first|(go_at_call 93;refine (JK _ _).mono ?_;rintro e w' ⟨rfl,rfl⟩;rw[f.o]))
    go_loop [3] (fun i=>∃k:Nat,k<=s.size∧i=iV k∧(s.data.toList.take k).all EK=true) (fun i=>s.size - (intOf i).toNat)
    case atStart=>exact ⟨0,by omega,rfl,rfl⟩
    case round=>
     obtain ⟨k,m,rfl,g⟩:=hrel
     have h:=ya g;clear g
     by_cases a:k < s.size
     ·generalize j:EK s[k]=l
      have d:=ya j;clear j
      cases l
      ·go_wp2_with (first|(go_at_call 94;refine (Pa _ _).mono ?_;rintro e w' ⟨rfl,rfl⟩;rw[d.o]))
       go_ret
       exact ⟨Au (by rw[<-b.o,LG a d.o]),rfl⟩
      ·go_wp2_with (first|(go_at_call 94;refine (Pa _ _).mono ?_;rintro e w' ⟨rfl,rfl⟩;rw[d.o]))
       exact ⟨⟨k+1,by omega,by go_num,P5 a h.o d.o⟩,by simp[intOf];omega⟩
     ·go_wp2
      go_ret
      obtain rfl:k=s.size:=by omega
      exact ⟨Au (by rw[<-b.o,Nb h0 c f.o h.o]),rfl⟩
  ·go_enter Try.func85,Try.ntmps85
   go_wp2_with fail
   go_ret
   exact ⟨Au (by rw[<-b.o,LF h0 c]),rfl⟩
 ·go_enter Try.func85,Try.ntmps85
  go_wp2_with fail
  go_ret
  exact ⟨Au (by rw[<-b.o,KL h0]),rfl⟩
theorem Pc(op b u:Int)(rn:ByteArray)(ri:Int)(a:Option Addr)(m cap:Nat)(w:World):
  Calls Try.prog 95 #[.agg #[.int .i64 op,.int .i64 b,.int .i64 u,.string rn,.int .i64 ri,.slice a m cap]] w fun e w'=>e=.returned (.bool (EG op b u rn ri m))∧Below w.heap.size w w':=by
 by_cases h0:op=0
 ·by_cases h1:b=0
  ·by_cases h2:u=0
   ·subst h0 h1 h2
    go_enter Try.func95,Try.ntmps95
    go_wp2
    ·rename_i h1 h2
     go_ret
     refine ⟨Au ?_,(yc _ _).alloc (ye _) _⟩
     simp only[EG,xS (show rn.size=0∧ri=0 from ⟨(Dg rn).2 h1,h2⟩)]
     rw[zu];simp
    ·rename_i h1 h2
     go_ret
     refine ⟨Au ?_,(yc _ _).alloc (ye _) _⟩
     simp only[EG,zH (show ¬ (rn.size=0∧ri=0) from fun h=>h2 h.2)]
     simp
    ·rename_i h1
     go_ret
     refine ⟨Au ?_,(yc _ _).alloc (ye _) _⟩
     simp only[EG,zH (show ¬ (rn.size=0∧ri=0) from fun h=>h1 ((Dg rn).1 h.1))]
     simp
   ·have c:(u==0)=false:=by simpa using h2
    subst h0 h1
    go_enter Try.func95,Try.ntmps95
    go_wp2
    go_ret
    exact ⟨Au (by simp[EG,h2]),(yc _ _).alloc (ye _) _⟩
  ·have c:(b==0)=false:=by simpa using h1
   subst h0
   go_enter Try.func95,Try.ntmps95
   go_wp2
   go_ret
   exact ⟨Au (by simp[EG,h1]),(yc _ _).alloc (ye _) _⟩
 ·have c:(op==0)=false:=by simpa using h0
  go_enter Try.func95,Try.ntmps95
  go_wp2
  go_ret
  exact ⟨Au (by simp[EG,h0]),(yc _ _).alloc (ye _) _⟩
def Pd:List (List UInt8):=[[100,105,115,116,114,105,99,116],[115,101,97,115,111,110],[114,101,115,101,114,118,111,105,114],[104,111,108,100,115],[108,101,116],[99,114,111,112],[110,101,101,100,115],[114,101,97,99,104],[102,114,111,109],[100,101,108,97,121],[99,97,112,97,99,105,116,121],[98,97,110,107],[115,105,112,104,111,110],[101,118,97,112,111,114,97,116,105,111,110],[116,111],[115,101,101,112,97,103,101],[102,97,114,109],[111,110],[114,105,118,101,114],[97,114,101,97],[114,111,116,97,116,105,111,110],[114,97,110,107],[102,108,111,119],[116,117,114,110],[102,111,114],[116,97,107,101],[111,102],[101,118,101,114,121],[111,119,110],[101,97,115,101,109,101,110,116],[100,117,116,121],[98,121],[108],[109,51],[104],[100],[97]]
def IL(s:ByteArray):Bool:=Pd.contains s.toList
theorem TK{s:ByteArray}{l:List UInt8}(h:(s.toList==l)=true)(hl:Pd.contains l=true):true=IL s:=by
 have e:s.toList=l:=eq_of_beq h
 unfold IL
 rw[e,hl]
theorem TL(s:ByteArray)(w:World):
  Calls Try.prog 86 #[.string s] w fun e w'=>e=.returned (.bool (IL s))∧w=w':=by
 go_enter Try.func86,Try.ntmps86
 go_wp2
 all_goals
  first
  |(rename_i h1 h2;exact absurd (h1.symm.trans h2) Bool.noConfusion)
  |(rename_i h;go_ret;exact ⟨Au (TK h rfl),rfl⟩)
  |(go_ret;exact ⟨Au (by simp only[IL,Pd,List.contains_cons, *,qu,List.contains_nil]),rfl⟩)
theorem LN(n:Nat)(j:1<=n)(Bs:Nat)(L:BL)(m:L.Ok):VV Fence.wide n Try.prog 89 #[.pointer (some ⟨Bs,0,none⟩)] (JW L Bs) (Cw L) none:=by
 intro l J Jx Jp W q d _ c b _ a h0
 refine (za.2 (QH n j l Bs L m J Jx Jp W ⟨q,d,c,b,fun k i O o r p g=>a k i O o r p g⟩ h0)).mono ?_
 rintro e W' (⟨f,h|h⟩|h)
 ·exact .inl ⟨f,.inl ⟨rfl,h⟩⟩
 ·exact .inl ⟨f,.inr h⟩
 ·exact .inr h
theorem G0(s:Nat)(w:World):Calls Try.prog 67 #[.pointer (some ⟨s,0,none⟩)] w fun x w'=>x=.returned (.func (.func 89) #[] #[.pointer (some ⟨w.heap.size,0,none⟩)])∧w'=w.alloc (.cells #[.pointer (some ⟨s,0,none⟩)] 52):=by
 have a:∀(fn:Fn) (first cap:Array Value) (w:World),(Instr.makeFunc fn first cap).run Try.prog w=.ok (.func fn first cap) w:=fun _ _ _ _=>rfl
 go_enter Try.func67,Try.ntmps67
 go_wp2
 go_ret
 exact ⟨rfl,rfl⟩
def Ty(w:World)(b t:Nat):Prop:=∃c,w.heap[b]?=some (.cells c t (0,0))
theorem Ty.inj{w:World}{b t a:Nat}(h:Ty w b t)(d:Ty w b a):t=a:=by
 obtain ⟨c,e⟩:=h
 obtain ⟨f,e'⟩:=d
 rw[e] at e'
 cases e';rfl
theorem Ty.lt{w:World}{b t:Nat}(h:Ty w b t):b < w.heap.size:=by
 obtain ⟨c,e⟩:=h
 exact (yd.1 e).1
def GK(t o:Nat):Nat:=
 if t=35 then (if o=0 then 0 else if o < 19 then 1 else 0)
 else if t=55 then (if o % 7=0 then 0 else 1)
 else if t=57 then (if o % 7=0 then 0 else 1)
 else if t=51 then (if o % 51 < 2 then 0 else if o % 51=2 then 2 else 1)
 else if t=59 then (if o % 12=2 then 2 else if o % 12=11 then 2 else if o % 12 < 4 then 0 else if o % 12=10 then 0 else 1)
 else if t=64 then (if o % 23=2 then 2 else if o % 23 < 4 then 0 else if o % 23=22 then 0 else 1)
 else if t=66 then (if o % 8=0 then 0 else if o % 8=1 then 2 else 1)
 else if t=68 then (if o % 37=3 then 2 else if o % 37=5 then 2 else if o % 37 < 7 then 0 else 1)
 else if t=70 then (if o % 11=2 then 2 else if o % 11=4 then 2 else if o % 11 < 5 then 0 else 1)
 else 1
def Hg(t o:Nat):Nat:=
 if t=35 then (o+5) % 6
 else if t=55 then (o % 7+5) % 6
 else if t=57 then (o % 7+5) % 6
 else if t=51 then (o % 51+3) % 6
 else if t=59 then (o % 12+2) % 6
 else if t=64 then (o % 23+2) % 6
 else if t=66 then (o % 8+4) % 6
 else if t=68 then (o % 37+5) % 6
 else if t=70 then (o % 11+1) % 6
 else o % 6
def I9(w:World)(b o:Nat):Prop:=∃t,Ty w b t∧∀j,j < 6->GK t (o+j)=1∧Hg t (o+j)=j
theorem I9.uniq{w:World}{b o d j j':Nat}(h:I9 w b o)(f:I9 w b d)(i:j < 6)(e:j' < 6)(g:o+j=d+j'):j=j'∧o=d:=by
 obtain ⟨t,h1,h2⟩:=h
 obtain ⟨k,c,a⟩:=f
 obtain rfl:=h1.inj c
 have e1:=(h2 j i).2
 have e2:=(a j' e).2
 rw[g,e2] at e1
 omega
def QI(w:World)(b o:Nat):Prop:=∃t,Ty w b t∧GK t o=0∧GK t (o+1)=2
def Pe(w:World)(b o:Nat):Prop:=∃t,Ty w b t∧GK t o=0
def F7{α:Type}(N:NP)(w:World)(t sz:Nat)(P:Nat->Nat->Nat->α->Prop)(h:AF)(l:List α):Prop:=
 h.n=l.length∧l.length<=140737488355328∧∀i (hi:i < l.length),∃g,h.a=some ⟨g,0,none⟩∧N g∧Ty w g t∧P i g (i*sz) l[i]
theorem F7.ok{α:Type}{N:NP}{w:World}{t sz:Nat}{P:Nat->Nat->Nat->α->Prop}{h:AF}{l:List α}(a:F7 N w t sz P h l):h.ok:=by
 obtain ⟨h1,h2,h3⟩:=a
 refine ⟨by omega,fun b=>?_⟩
 obtain ⟨g,g1,_⟩:=h3 0 (by omega)
 exact ⟨g,0,g1⟩
theorem F7.map{α:Type}{N:NP}{w w':World}{t sz:Nat}{P e:Nat->Nat->Nat->α->Prop}{h:AF}{l:List α}{f:Nat->α->α}(k:F7 N w t sz P h l)(m:∀b,N b->Ty w b t->Ty w' b t)(n:∀i g d,N g->Ty w g t->P i g (i*sz) d->e i g (i*sz) (f i d)):F7 N w' t sz e h (l.mapIdx f):=by
 obtain ⟨h1,h2,h3⟩:=k
 refine ⟨by rw[qi];exact h1,by rw[qi];exact h2,fun i hi=>?_⟩
 rw[qi] at hi
 obtain ⟨g,g1,a,c,j⟩:=h3 i hi
 refine ⟨g,g1,a,m g a c,?_⟩
 rw[xA]
 exact n i g _ a c j
section
variable(N:NP)(E:Int->Ex->Nat->Nat->Prop)(R:Int->Rf->Nat->Nat->Prop)(w:World)
def LO(s:ByteArray)(g o:Nat):Prop:=s.size<=maxLen∧w.cell? ⟨g,o,none⟩=some (.string s)
def Wz(i g o:Nat)(d:E8):Prop:=LO w d.name g o∧E (1+(i:Int)) d.value g (o+1)
def VG(_ g o:Nat)(d:Cp):Prop:=LO w d.name g o∧E 0 d.need g (o+1)
def TM(i g o:Nat)(d:AI):Prop:=LO w d.name g o∧R (if i=0 then 0 else 6) d.frm g (o+1)∧E 0 d.delay g (o+3)∧E 0 d.cap g (o+9)∧E 0 d.bank g (o+15)∧E 0 d.siphon g (o+21)∧E 0 d.evap0 g (o+27)∧E 0 d.evap1 g (o+33)∧E 0 d.seep0 g (o+39)∧E 0 d.seep1 g (o+45)
def VH(_ g o:Nat)(d:BN):Prop:=LO w d.name g o∧R 4 d.on g (o+1)∧w.cell? ⟨g,o+3,none⟩=some (.bool d.river)∧E 0 d.area g (o+4)∧R (if d.river then 0 else 3) d.crop g (o+10)
def VI(_ g o:Nat)(d:BM):Prop:=R 5 d.farm g o∧E 0 d.len g (o+2)
def VX(h:Nat->AF)(i g o:Nat)(d:AS):Prop:=LO w d.name g o∧R 4 d.on g (o+1)∧w.cell? ⟨g,o+3,none⟩=some (.int .i64 d.rank)∧E 0 d.flow g (o+4)∧E 0 d.frm g (o+10)∧E 0 d.to g (o+16)∧w.cell? ⟨g,o+22,none⟩=some (h i).v∧F7 N w 66 8 (VI E R) (h i) d.turns
def TN(_ g o:Nat)(d:AJ):Prop:=w.cell? ⟨g,o,none⟩=some (.int .i64 d.kind)∧LO w d.name g (o+1)∧R 5 d.farm g (o+2)∧R (if d.kind=1 then 0 else 4) d.reach g (o+4)∧w.cell? ⟨g,o+6,none⟩=some (.int .i64 d.rank)∧E 0 d.flow g (o+7)∧E 0 d.frm g (o+13)∧E 0 d.to g (o+19)∧E 0 d.every g (o+25)∧E 0 d.len g (o+31)
def VJ(_ g o:Nat)(d:BV):Prop:=LO w d.name g o∧R 5 d.farm g (o+1)∧R 4 d.reach g (o+3)∧E 0 d.due g (o+5)
structure CT (L:BL) (x:AA):Prop where
 ty:Ty w L.s 35
 name:LO w x.name L.s 0
 season:E 0 x.season L.s 1
 cap:E 0 x.cap L.s 7
 start:E 0 x.start L.s 13
 hlets:w.cell? ⟨L.s,19,none⟩=some L.lets.v
 hcrops:w.cell? ⟨L.s,20,none⟩=some L.crops.v
 hreaches:w.cell? ⟨L.s,21,none⟩=some L.reaches.v
 hfarms:w.cell? ⟨L.s,22,none⟩=some L.farms.v
 hrots:w.cell? ⟨L.s,23,none⟩=some L.rots.v
 hrights:w.cell? ⟨L.s,24,none⟩=some L.rights.v
 hduties:w.cell? ⟨L.s,25,none⟩=some L.duties.v
 lets:F7 N w 55 7 (Wz E w) L.lets x.lets
 crops:F7 N w 57 7 (VG E w) L.crops x.crops
 reaches:F7 N w 51 51 (TM E R w) L.reaches x.reaches
 farms:F7 N w 59 12 (VH E R w) L.farms x.farms
 rots:F7 N w 64 23 (VX N E R w (A5 L)) L.rots x.rots
 rights:F7 N w 68 37 (TN E R w) L.rights x.rights
 duties:F7 N w 70 11 (VJ E R w) L.duties x.duties
end
section
variable(f:Int->Ex->Ex)(g:Int->Rf->Rf)
def E8.mp(i:Nat)(d:E8):E8:={d with value:=f (1+(i:Int)) d.value}
def Cp.mp(_:Nat)(d:Cp):Cp:={d with need:=f 0 d.need}
def AI.mp(i:Nat)(d:AI):AI:={d with frm:=g (if i=0 then 0 else 6) d.frm,delay:=f 0 d.delay,cap:=f 0 d.cap,bank:=f 0 d.bank,siphon:=f 0 d.siphon,evap0:=f 0 d.evap0,evap1:=f 0 d.evap1,seep0:=f 0 d.seep0,seep1:=f 0 d.seep1}
def BN.mp(_:Nat)(d:BN):BN:={d with on:=g 4 d.on,area:=f 0 d.area,crop:=g (if d.river then 0 else 3) d.crop}
def BM.mp(_:Nat)(d:BM):BM:={farm:=g 5 d.farm,len:=f 0 d.len}
def AS.mp(_:Nat)(d:AS):AS:={d with on:=g 4 d.on,flow:=f 0 d.flow,frm:=f 0 d.frm,to:=f 0 d.to,turns:=d.turns.mapIdx (BM.mp f g)}
def AJ.mp(_:Nat)(d:AJ):AJ:={d with farm:=g 5 d.farm,reach:=g (if d.kind=1 then 0 else 4) d.reach,flow:=f 0 d.flow,frm:=f 0 d.frm,to:=f 0 d.to,every:=f 0 d.every,len:=f 0 d.len}
def BV.mp(_:Nat)(d:BV):BV:={d with farm:=g 5 d.farm,reach:=g 4 d.reach,due:=f 0 d.due}
def AA.mp(x:AA):AA:=
 {x with season:=f 0 x.season,cap:=f 0 x.cap,start:=f 0 x.start,lets:=x.lets.mapIdx (E8.mp f),crops:=x.crops.mapIdx (Cp.mp f),reaches:=x.reaches.mapIdx (AI.mp f g),farms:=x.farms.mapIdx (BN.mp f g),rots:=x.rots.mapIdx (AS.mp f g),rights:=x.rights.mapIdx (AJ.mp f g),duties:=x.duties.mapIdx (BV.mp f g)}
end
def QJ(t sz:Nat):Prop:=(t=55∧sz=7)∨(t=57∧sz=7)∨(t=51∧sz=51)∨(t=59∧sz=12)∨(t=64∧sz=23)∨(t=66∧sz=8)∨(t=68∧sz=37)∨(t=70∧sz=11)
theorem E3{t sz:Nat}(h:QJ t sz)(i c:Nat):GK t (i*sz+c)=GK t c∧Hg t (i*sz+c)=Hg t c:=by
 rcases h with ⟨rfl,rfl⟩|⟨rfl,rfl⟩|⟨rfl,rfl⟩|⟨rfl,rfl⟩|⟨rfl,rfl⟩|⟨rfl,rfl⟩|⟨rfl,rfl⟩|⟨rfl,rfl⟩
 ·have e:(i*7+c) % 7=c % 7:=by omega
  simp[GK,Hg,e]
 ·have e:(i*7+c) % 7=c % 7:=by omega
  simp[GK,Hg,e]
 ·have e:(i*51+c) % 51=c % 51:=by omega
  simp[GK,Hg,e]
 ·have e:(i*12+c) % 12=c % 12:=by omega
  simp[GK,Hg,e]
 ·have e:(i*23+c) % 23=c % 23:=by omega
  simp[GK,Hg,e]
 ·have e:(i*8+c) % 8=c % 8:=by omega
  simp[GK,Hg,e]
 ·have e:(i*37+c) % 37=c % 37:=by omega
  simp[GK,Hg,e]
 ·have e:(i*11+c) % 11=c % 11:=by omega
  simp[GK,Hg,e]
theorem BW{w:World}{g t sz:Nat}(h:Ty w g t)(a:QJ t sz)(i c:Nat)(h1:∀j,j < 6->GK t (c+j)=1∧Hg t (c+j)=j):I9 w g (i*sz+c):=
 ⟨t,h,fun j b=>by rw[zU,(E3 a i (c+j)).1,(E3 a i (c+j)).2];exact h1 j b⟩
theorem Es{w:World}{g t sz:Nat}(h:Ty w g t)(a:QJ t sz)(i c:Nat)(h1:GK t c=0):Pe w g (i*sz+c):=⟨t,h,by rw[(E3 a i c).1];exact h1⟩
theorem Fb{w:World}{g t sz:Nat}(h:Ty w g t)(a:QJ t sz)(i:Nat)(h1:GK t 0=0):Pe w g (i*sz):=Es h a i 0 h1
theorem Cy{w:World}{g t sz:Nat}(h:Ty w g t)(a:QJ t sz)(i c:Nat)(h1:GK t c=0)(h2:GK t (c+1)=2):QI w g (i*sz+c):=
 ⟨t,h,by rw[(E3 a i c).1];exact h1,by rw[zU,(E3 a i (c+1)).1];exact h2⟩
theorem Nk{w:World}{g t sz:Nat}(h:Ty w g t)(a:QJ t sz)(i:Nat)(h1:GK t 0=0)(h2:GK t 1=2):QI w g (i*sz):=Cy h a i 0 h1 h2
theorem TO:QJ 55 7:=.inl ⟨rfl,rfl⟩
theorem QK:QJ 57 7:=.inr (.inl ⟨rfl,rfl⟩)
theorem CC:QJ 51 51:=.inr (.inr (.inl ⟨rfl,rfl⟩))
theorem Gd:QJ 59 12:=.inr (.inr (.inr (.inl ⟨rfl,rfl⟩)))
theorem GL:QJ 64 23:=.inr (.inr (.inr (.inr (.inl ⟨rfl,rfl⟩))))
theorem LP:QJ 66 8:=.inr (.inr (.inr (.inr (.inr (.inl ⟨rfl,rfl⟩)))))
theorem CD:QJ 68 37:=.inr (.inr (.inr (.inr (.inr (.inr (.inl ⟨rfl,rfl⟩))))))
theorem Ia:QJ 70 11:=.inr (.inr (.inr (.inr (.inr (.inr (.inr ⟨rfl,rfl⟩))))))
section
variable{N:NP}{E E':Int->Ex->Nat->Nat->Prop}{R R':Int->Rf->Nat->Nat->Prop}{w w':World}{f:Int->Ex->Ex}{g:Int->Rf->Rf}
theorem LO.same{s:ByteArray}{b o:Nat}(h:LO w s b o)(a:w'.cell? ⟨b,o,none⟩=w.cell? ⟨b,o,none⟩):LO w' s b o:=⟨h.1,a.trans h.2⟩
theorem CT.map{L:BL}{x:AA}(h:CT N E R w L x)(l:∀b t,(N b∨b=L.s)->Ty w b t->Ty w' b t)(c:∀b o,(N b∨b=L.s)->Pe w b o->w'.cell? ⟨b,o,none⟩=w.cell? ⟨b,o,none⟩)
 (a:∀lt e b o,(N b∨b=L.s)->I9 w b o->E lt e b o->E' lt (f lt e) b o)(k:∀to r b o,(N b∨b=L.s)->QI w b o->R to r b o->R' to (g to r) b o):CT N E' R' w' L (x.mp f g):=by
 have m:∀o,GK 35 o=0->w'.cell? (aV L.s o)=w.cell? (aV L.s o):=fun o v=>c _ _ (.inr rfl) ⟨_,h.ty,v⟩
 have u:∀lt e o,(∀j,j < 6->GK 35 (o+j)=1∧Hg 35 (o+j)=j)->E lt e L.s o->E' lt (f lt e) L.s o:=fun lt e o v=>a lt e _ _ (.inr rfl) ⟨_,h.ty,v⟩
 refine ⟨l _ _ (.inr rfl) h.ty,h.name.same (m 0 rfl),u _ _ _ (by decide) h.season,u _ _ _ (by decide) h.cap,u _ _ _ (by decide) h.start,(m _ rfl).trans h.hlets,(m _ rfl).trans h.hcrops,(m _ rfl).trans h.hreaches,(m _ rfl).trans h.hfarms,(m _ rfl).trans h.hrots,(m _ rfl).trans h.hrights,(m _ rfl).trans h.hduties,?_,?_,?_,?_,?_,?_,?_⟩
 ·refine h.lets.map (fun b hb=>l b _ (.inl hb)) fun i b d hb ty ⟨h1,h2⟩=>?_
  exact ⟨h1.same (c _ _ (.inl hb) (Fb ty TO i rfl)),a _ _ _ _ (.inl hb) (BW ty TO i 1 (by decide)) h2⟩
 ·refine h.crops.map (fun b hb=>l b _ (.inl hb)) fun i b d hb ty ⟨h1,h2⟩=>?_
  exact ⟨h1.same (c _ _ (.inl hb) (Fb ty QK i rfl)),a _ _ _ _ (.inl hb) (BW ty QK i 1 (by decide)) h2⟩
 ·refine h.reaches.map (fun b hb=>l b _ (.inl hb)) fun i b d hb ty ⟨h1,h2,n,q,p,y,z,B,C,A⟩=>?_
  exact ⟨h1.same (c _ _ (.inl hb) (Fb ty CC i rfl)),k _ _ _ _ (.inl hb) (Cy ty CC i 1 rfl rfl) h2,
   a _ _ _ _ (.inl hb) (BW ty CC i 3 (by decide)) n,a _ _ _ _ (.inl hb) (BW ty CC i 9 (by decide)) q,a _ _ _ _ (.inl hb) (BW ty CC i 15 (by decide)) p,a _ _ _ _ (.inl hb) (BW ty CC i 21 (by decide)) y,
   a _ _ _ _ (.inl hb) (BW ty CC i 27 (by decide)) z,a _ _ _ _ (.inl hb) (BW ty CC i 33 (by decide)) B,a _ _ _ _ (.inl hb) (BW ty CC i 39 (by decide)) C,a _ _ _ _ (.inl hb) (BW ty CC i 45 (by decide)) A⟩
 ·refine h.farms.map (fun b hb=>l b _ (.inl hb)) fun i b d hb ty ⟨h1,h2,h3,h4,h5⟩=>?_
  exact ⟨h1.same (c _ _ (.inl hb) (Fb ty Gd i rfl)),k _ _ _ _ (.inl hb) (Cy ty Gd i 1 rfl rfl) h2,(c _ _ (.inl hb) (Es ty Gd i 3 rfl)).trans h3,
   a _ _ _ _ (.inl hb) (BW ty Gd i 4 (by decide)) h4,k _ _ _ _ (.inl hb) (Cy ty Gd i 10 rfl rfl) h5⟩
 ·refine h.rots.map (fun b hb=>l b _ (.inl hb)) fun i b d hb ty ⟨h1,h2,h3,n,q,p,h4,h5⟩=>?_
  refine ⟨h1.same (c _ _ (.inl hb) (Fb ty GL i rfl)),k _ _ _ _ (.inl hb) (Cy ty GL i 1 rfl rfl) h2,(c _ _ (.inl hb) (Es ty GL i 3 rfl)).trans h3,
   a _ _ _ _ (.inl hb) (BW ty GL i 4 (by decide)) n,a _ _ _ _ (.inl hb) (BW ty GL i 10 (by decide)) q,a _ _ _ _ (.inl hb) (BW ty GL i 16 (by decide)) p,(c _ _ (.inl hb) (Es ty GL i 22 rfl)).trans h4,?_⟩
  refine h5.map (fun b hb=>l b _ (.inl hb)) fun i b d hb ty ⟨h1,h2⟩=>?_
  exact ⟨k _ _ _ _ (.inl hb) (Nk ty LP i rfl rfl) h1,a _ _ _ _ (.inl hb) (BW ty LP i 2 (by decide)) h2⟩
 ·refine h.rights.map (fun b hb=>l b _ (.inl hb)) fun i b d hb ty ⟨h0,h1,h2,h3,h4,n,q,p,y,z⟩=>?_
  exact ⟨(c _ _ (.inl hb) (Fb ty CD i rfl)).trans h0,h1.same (c _ _ (.inl hb) (Es ty CD i 1 rfl)),k _ _ _ _ (.inl hb) (Cy ty CD i 2 rfl rfl) h2,k _ _ _ _ (.inl hb) (Cy ty CD i 4 rfl rfl) h3,
   (c _ _ (.inl hb) (Es ty CD i 6 rfl)).trans h4,a _ _ _ _ (.inl hb) (BW ty CD i 7 (by decide)) n,a _ _ _ _ (.inl hb) (BW ty CD i 13 (by decide)) q,a _ _ _ _ (.inl hb) (BW ty CD i 19 (by decide)) p,a _ _ _ _ (.inl hb) (BW ty CD i 25 (by decide)) y,a _ _ _ _ (.inl hb) (BW ty CD i 31 (by decide)) z⟩
 ·refine h.duties.map (fun b hb=>l b _ (.inl hb)) fun i b d hb ty ⟨h1,h2,h3,h4⟩=>?_
  exact ⟨h1.same (c _ _ (.inl hb) (Fb ty Ia i rfl)),k _ _ _ _ (.inl hb) (Cy ty Ia i 1 rfl rfl) h2,k _ _ _ _ (.inl hb) (Cy ty Ia i 3 rfl rfl) h3,a _ _ _ _ (.inl hb) (BW ty Ia i 5 (by decide)) h4⟩
end
def Wx(N:NP)(E:Int->Ex->Nat->Nat->Prop)(w:World)(a:Array Value)(e:Kp):Prop:=∃b o,a=#[.pointer (some ⟨b,o,none⟩),.int .i64 e.2]∧N b∧I9 w b o∧E e.2 e.1 b o
section
variable{N:NP}{E:Int->Ex->Nat->Nat->Prop}{R:Int->Rf->Nat->Nat->Prop}{w:World}
theorem Dr{h:AF}{g sz i off t:Nat}{e:Ex}{lt:Int}(c:h.a=some ⟨g,0,none⟩)(hN:N g)(ty:Ty w g t)(b:QJ t sz)(h1:∀j,j < 6->GK t (off+j)=1∧Hg t (off+j)=j)(d:E lt e g (i*sz+off)):Wx N E w #[h.ptr sz i off,.int .i64 lt] (e,lt):=
 ⟨g,i*sz+off,by unfold AF.ptr;rw[BE c,yD],hN,BW ty b i off h1,d⟩
theorem CT.Xq{L:BL}{x:AA}(h:CT N E R w L x)(hs:N L.s):AW (Wx N E w) (Cw L) (Bb x):=by
 refine AW.append ?_ (AW.append ?_ (AW.append ?_ (AW.append ?_ (AW.append ?_ (AW.append ?_ (AW.append ?_ ?_))))))
 ·exact ⟨⟨L.s,1,rfl,hs,⟨_,h.ty,by decide⟩,h.season⟩,⟨L.s,7,rfl,hs,⟨_,h.ty,by decide⟩,h.cap⟩,⟨L.s,13,rfl,hs,⟨_,h.ty,by decide⟩,h.start⟩,trivial⟩
 ·obtain ⟨h1,h2,h3⟩:=h.lets
  refine BO _ (fun i (d:E8)=> [(d.value,1+(i:Int))]) x.lets _ h1 fun i hi=>?_
  obtain ⟨g,g1,a,ty,m,f⟩:=h3 i hi
  exact ⟨Dr g1 a ty TO (by decide) f,trivial⟩
 ·obtain ⟨h1,h2,h3⟩:=h.crops
  refine BO _ (fun i (d:Cp)=> [(d.need,0)]) x.crops _ h1 fun i hi=>?_
  obtain ⟨g,g1,a,ty,m,f⟩:=h3 i hi
  exact ⟨Dr g1 a ty QK (by decide) f,trivial⟩
 ·obtain ⟨h1,h2,h3⟩:=h.reaches
  refine BO _ (fun i (d:AI)=> [(d.delay,0),(d.cap,0),(d.bank,0),(d.siphon,0),(d.evap0,0),(d.evap1,0),(d.seep0,0),(d.seep1,0)]) x.reaches _ h1 fun i hi=>?_
  obtain ⟨g,g1,a,ty,m,f,b,e,c,j,l,q,r,o⟩:=h3 i hi
  exact ⟨Dr g1 a ty CC (by decide) b,Dr g1 a ty CC (by decide) e,Dr g1 a ty CC (by decide) c,Dr g1 a ty CC (by decide) j,Dr g1 a ty CC (by decide) l,Dr g1 a ty CC (by decide) q,Dr g1 a ty CC (by decide) r,Dr g1 a ty CC (by decide) o,trivial⟩
 ·obtain ⟨h1,h2,h3⟩:=h.farms
  refine BO _ (fun i (d:BN)=> [(d.area,0)]) x.farms _ h1 fun i hi=>?_
  obtain ⟨g,g1,a,ty,_,_,_,b,_⟩:=h3 i hi
  exact ⟨Dr g1 a ty Gd (by decide) b,trivial⟩
 ·obtain ⟨h1,h2,h3⟩:=h.rots
  refine BO _ (fun i (d:AS)=> [(d.flow,0),(d.frm,0),(d.to,0)]++DY d.turns) x.rots _ h1 fun i hi=>?_
  obtain ⟨g,g1,a,ty,_,_,_,b,e,c,_,hl,hc,p⟩:=h3 i hi
  refine AW.append ⟨Dr g1 a ty GL (by decide) b,Dr g1 a ty GL (by decide) e,Dr g1 a ty GL (by decide) c,trivial⟩ ?_
  refine BO _ (fun k (d:BM)=> [(d.len,0)]) (x.rots[i]).turns _ hl fun k n=>?_
  obtain ⟨g,g1,a,ty,_,b⟩:=p k n
  exact ⟨Dr g1 a ty LP (by decide) b,trivial⟩
 ·obtain ⟨h1,h2,h3⟩:=h.rights
  refine BO _ (fun i (d:AJ)=> [(d.flow,0),(d.frm,0),(d.to,0),(d.every,0),(d.len,0)]) x.rights _ h1 fun i hi=>?_
  obtain ⟨g,g1,a,ty,_,_,_,_,_,b,e,c,j,l⟩:=h3 i hi
  exact ⟨Dr g1 a ty CD (by decide) b,Dr g1 a ty CD (by decide) e,Dr g1 a ty CD (by decide) c,Dr g1 a ty CD (by decide) j,Dr g1 a ty CD (by decide) l,trivial⟩
 ·obtain ⟨h1,h2,h3⟩:=h.duties
  refine BO _ (fun i (d:BV)=> [(d.due,0)]) x.duties _ h1 fun i hi=>?_
  obtain ⟨g,g1,a,ty,_,_,_,b⟩:=h3 i hi
  exact ⟨Dr g1 a ty Ia (by decide) b,trivial⟩
end
def EV(N:NP)(w:World)(_:Int)(e:Ex)(b o:Nat):Prop:=∃c,w.rangeAt b o c∧Bh N w e c
def RV(w:World)(_:Int)(r:Rf)(b o:Nat):Prop:=r.name.size<=maxLen∧w.cell? ⟨b,o,none⟩=some (.string r.name)∧w.cell? ⟨b,o+1,none⟩=some (.int .i64 r.n)
theorem Ac{w:World}{b o:Nat}{v:Value}{l:LV}(h:w.cell? ⟨b,o,none⟩=some v)(hl:w.rangeAt b (o+1) l):w.rangeAt b o (v::l):=fun j u a=>by
 cases j with
 |zero=>simp at a;subst a;exact h
 |succ j=>have:=hl j u (by simpa using a);rw[show o+(j+1)=o+1+j by omega];exact this
theorem JY{w:World}{b o:Nat}{l m:LV}(h:w.rangeAt b o l)(d:w.rangeAt b (o+l.length) m):w.rangeAt b o (l++m):=fun j u a=>by
 rcases zV j l.length with c|c
 ·rw[zp c] at a;exact h j u a
 ·rw[yJ c] at a
  have:=d (j - l.length) u a
  rw[show o+l.length+(j - l.length)=o+j by omega] at this;exact this
theorem SK(w:World)(b o:Nat):w.rangeAt b o []:=fun j u a=>by simp at a
theorem CE{w:World}{b o:Nat}{v:Value}(h:w.cell? ⟨b,o,none⟩=some v):w.rangeAt b o [v]:=Ac h (SK _ _ _)
theorem Nl{w:World}{to:Int}{r:Rf}{b o:Nat}(h:RV w to r b o):w.rangeAt b o (Ad r):=Ac h.2.1 (CE h.2.2)
theorem BY{w:World}{b o:Nat}{c l:LV}(hc:c.length=6)(h:w.rangeAt b o c)(hl:w.rangeAt b (o+6) l):w.rangeAt b o (c++l):=JY h (by rw[hc];exact hl)
theorem FB{w:World}{to:Int}{r:Rf}{b o:Nat}{l:LV}(h:RV w to r b o)(hl:w.rangeAt b (o+2) l):w.rangeAt b o (Ad r++l):=JY (Nl h) hl
theorem F7.isRow{α:Type}{N:NP}{w:World}{t sz:Nat}{P:Nat->Nat->Nat->α->Prop}{h:AF}{l:List α}{Q:LV->α->Prop}(a:F7 N w t sz P h l)(f:∀i g d,P i g (i*sz) d->∃cs,cs.length=sz∧w.rangeAt g (i*sz) cs∧Q cs d):B7 N w sz Q h l:=by
 obtain ⟨h1,h2,h3⟩:=a
 refine ⟨h1,h2,fun i hi=>?_⟩
 obtain ⟨g,g1,k,ty,e⟩:=h3 i hi
 obtain ⟨cs,j,b,c⟩:=f i g _ e
 exact ⟨g,0,cs,g1,k,j,by rw[yD];exact b,c⟩
theorem CT.XA{N:NP}{w:World}{L:BL}{x:AA}(h:CT N (EV N w) (RV w) w L x):∃cs,cs.length=26∧w.rangeAt L.s 0 cs∧Ba N w L cs x:=by
 obtain ⟨c0,c,v0⟩:=h.season
 obtain ⟨c1,r1,k⟩:=h.cap
 obtain ⟨c2,r2,j⟩:=h.start
 have a:=v0.len;have e:=k.len;have f:=j.len
 refine ⟨.string x.name::(c0++(c1++(c2++[L.lets.v,L.crops.v,L.reaches.v,L.farms.v,L.rots.v,L.rights.v,L.duties.v]))),by simp[a,e,f],?_,?_⟩
 ·exact Ac h.name.2 (BY a c (BY e r1 (BY f r2 (Ac h.hlets (Ac h.hcrops (Ac h.hreaches (Ac h.hfarms (Ac h.hrots (Ac h.hrights (CE h.hduties))))))))))
 refine ⟨h.name.1,⟨c0,c1,c2,rfl,v0,k,j⟩,?_,?_,?_,?_,?_,?_,?_⟩
 ·refine h.lets.isRow fun i g d ⟨h1,c0,c,v0⟩=>?_
  have a:=v0.len
  exact ⟨.string d.name::c0,by simp[a],Ac h1.2 c,h1.1,c0,rfl,v0⟩
 ·refine h.crops.isRow fun i g d ⟨h1,c0,c,v0⟩=>?_
  have a:=v0.len
  exact ⟨.string d.name::c0,by simp[a],Ac h1.2 c,h1.1,c0,rfl,v0⟩
 ·refine h.reaches.isRow fun i g d ⟨h1,b,⟨c0,c,v0⟩,⟨c1,r1,k⟩,⟨c2,r2,j⟩,⟨n,r,v3⟩,⟨o,q,v4⟩,⟨z,F,v5⟩,⟨t,E,D⟩,⟨B,I,C⟩⟩=>?_
  have a:=v0.len;have e:=k.len;have f:=j.len;have l:=v3.len;have p:=v4.len;have u:=v5.len;have y:=D.len;have J:=C.len
  exact ⟨.string d.name::(Ad d.frm++(c0++(c1++(c2++(n++(o++(z++(t++B)))))))),by simp[A9,a,e,f,l,p,u,y,J],
   Ac h1.2 (FB b (BY a c (BY e r1 (BY f r2 (BY l r (BY p q (BY u F (BY y E I)))))))),h1.1,b.1,c0,c1,c2,n,o,z,t,B,rfl,v0,k,j,v3,v4,v5,D,C⟩
 ·refine h.farms.isRow fun i g d ⟨h1,b,m,⟨c0,c,v0⟩,hc⟩=>?_
  have a:=v0.len
  exact ⟨.string d.name::(Ad d.on++(.bool d.river::(c0++Ad d.crop))),by simp[A9,a],Ac h1.2 (FB b (Ac m (BY a c (Nl hc)))),h1.1,b.1,hc.1,c0,rfl,v0⟩
 ·obtain ⟨h1,h2,h3⟩:=h.rots
  refine ⟨h1,h2,fun i hi=>?_⟩
  obtain ⟨g,g1,K,ty,A,b,m,⟨c0,c,v0⟩,⟨c1,r1,k⟩,⟨c2,r2,j⟩,H,G⟩:=h3 i hi
  have a:=v0.len;have e:=k.len;have f:=j.len
  refine ⟨g,0,.string (x.rots[i]).name::(Ad (x.rots[i]).on++(iV (x.rots[i]).rank::(c0++(c1++(c2++[(A5 L i).v]))))),g1,K,by simp[A9,a,e,f],?_,A.1,b.1,c0,c1,c2,rfl,v0,k,j,?_⟩
  ·rw[yD]
   exact Ac A.2 (FB b (Ac m (BY a c (BY e r1 (BY f r2 (CE H))))))
  ·refine G.isRow fun i g d ⟨b,c0,c,v0⟩=>?_
   have a:=v0.len
   exact ⟨Ad d.farm++c0,by simp[A9,a],FB b c,b.1,c0,rfl,v0⟩
 ·refine h.rights.isRow fun i g d ⟨h0,h1,b,hc,m,⟨c0,c,v0⟩,⟨c1,r1,k⟩,⟨c2,r2,j⟩,⟨n,r,v3⟩,⟨o,q,v4⟩⟩=>?_
  have a:=v0.len;have e:=k.len;have f:=j.len;have l:=v3.len;have p:=v4.len
  exact ⟨iV d.kind::.string d.name::(Ad d.farm++(Ad d.reach++(iV d.rank::(c0++(c1++(c2++(n++o))))))),by simp[A9,a,e,f,l,p],
   Ac h0 (Ac h1.2 (FB b (FB hc (Ac m (BY a c (BY e r1 (BY f r2 (BY l r q)))))))),h1.1,b.1,hc.1,c0,c1,c2,n,o,rfl,v0,k,j,v3,v4⟩
 ·refine h.duties.isRow fun i g d ⟨h1,b,hc,⟨c0,c,v0⟩⟩=>?_
  have a:=v0.len
  exact ⟨.string d.name::(Ad d.farm++(Ad d.reach++c0)),by simp[A9,a],Ac h1.2 (FB b (FB hc c)),h1.1,b.1,hc.1,c0,rfl,v0⟩
theorem Ld{ops:Array Oper}{o:Oper}{a:Act}{K:Act->World->Prop}{Q:QT}{E:Prop}{W:World}{t e:TypeId}{q:TypeInfo}{z:Value}{size d:Nat}(S:Try.prog.underlying t=some (.slice e))(hi:Try.prog.info? e=some q)(J:q.zero=some z)(L:q.size=size)(H:q.bytes=d)(N:z.cells.size=size)(D:0 < size)(O:d<=10000)
 (B:Nat)(M:o.guard=none)(s x:Operand)(R:o.op=.call {callee:=.builtin .append,args:=#[s,x],argTypes:=#[t,t]})(v:Value)(n:Nat)(xs:LV)(hs:a.eval s=v)(f:W.ownsRow B e size v n xs)
 (X:Value)(m:Nat)(y:LV)(U:a.eval x=X)(Y:Cx W X m size y)(w:n+m<=1000000)(l:B<=W.heap.size)
 (h:∀(A:Option Addr) (c:Nat) w',w'.ownsRow B e size (.slice A (n+m) c) (n+m) (xs++y)->W.grownBy w' v.ownBlock->K (a.put o.dst (.slice A (n+m) c)) w'):
  if Region.wanted o (yielded ops a.tmps)=true then Oper.wp Try.prog o a W K Q else E:=by
 have V:Region.wanted o (yielded ops a.tmps)=true:=by simp[Region.wanted,M]
 rw[yu V]
 obtain ⟨r,G,A,cap,rfl,k⟩:=Y
 by_cases P:m=0
 ·subst P
  obtain rfl:y=[]:=yX.1 (by simpa using r)
  have p:=FZ S hi W B o.type v n xs f A cap
  obtain ⟨va,C,rfl⟩:∃a c,v=.slice a n c:=by
   rcases f.2 with ⟨rfl,F⟩|⟨g,cap,I,rfl,_⟩
   ·exact ⟨none,0,by rw[F]⟩
   ·exact ⟨_,_,rfl⟩
  unfold Oper.wp
  simp[execOp,R,resolve,invoke,builtin,hs,U,p,Result.andThen]
  have T:=h va C W (by simpa using f) ⟨rfl,rfl,rfl,ye _,fun _ _ _=>rfl⟩
  rw[xG] at T
  exact T
 ·obtain ⟨b,off,rfl,hb,hc⟩:=k.resolve_left P
  refine qt W s x t R B e q z size d S hi J L H N D v n xs hs f (aV b off) m cap y U r (fun j u hj=>?_) G (by unfold maxLen;omega) (by
   have:(n+m)*d<=1000000*10000:=Nat.mul_le_mul w O
   omega) l ?_
  ·rw[zx];exact hc j u hj
  ·intro v' w' i Z _
   obtain ⟨va,C,rfl⟩:∃a c,v'=.slice a (n+m) c:=by
    rcases i.2 with ⟨rfl,F⟩|⟨g,cap,I,rfl,_⟩
    ·exact ⟨none,0,by rw[F]⟩
    ·exact ⟨_,_,rfl⟩
   exact h va C w' i Z
theorem JZ{ops:Array Oper}{o:Oper}{a:Act}{rest:List Oper}{Q:QT}{W:World}{t e:TypeId}{j:TypeInfo}{z:Value}{size b:Nat}(D:Try.prog.underlying t=some (.slice e))(hi:Try.prog.info? e=some j)(r:j.zero=some z)(u:j.size=size)(q:j.bytes=b)(w:z.cells.size=size)(p:0 < size)(y:b<=10000)
 (B:Nat)(f:o.guard=none)(s x:Operand)(A:o.op=.call {callee:=.builtin .append,args:=#[s,x],argTypes:=#[t,t]})(v:Value)(n:Nat)(xs:LV)(hs:a.eval s=v)(g:W.ownsRow B e size v n xs)
 (X:Value)(m:Nat)(l:LV)(H:a.eval x=X)(C:Cx W X m size l)(i:n+m<=1000000)(d:B<=W.heap.size)
 (h:∀(k:Option Addr) (c:Nat) w',w'.ownsRow B e size (.slice k (n+m) c) (n+m) (xs++l)->W.grownBy w' v.ownBlock->wpList Try.prog ops Q rest (a.put o.dst (.slice k (n+m) c)) w'):wpList Try.prog ops Q (o::rest) a W:=
 yF f fun K F=>by
  have G:=Ld (ops:=ops) (E:=True) (K:=K) (Q:=Q) D hi r u q w p y B f s x A v n xs hs g X m l H C i d (fun k c w' h1 h2=>F _ _ (h k c w' h1 h2))
  rwa [yu (by simp[Region.wanted,f])] at G
theorem Hh:∀(css:List LV) (sz:Nat),(∀cs∈css,cs.length=sz)->css.flatten.length=css.length*sz∧∀i (h:i < css.length) j,j < sz->css.flatten[i*sz+j]?=css[i][j]?
 |[],sz,_=>⟨by simp,fun i h=>by simp at h⟩
 |c::r,sz,h=>by
  obtain ⟨h1,h2⟩:=Hh r sz (fun cs hc=>h cs (xj _ hc))
  have hc:=h c List.mem_cons_self
  refine ⟨by rw[xx,yi,h1,hc,yC,Nat.add_mul];omega,fun i hi j a=>?_⟩
  cases i with
  |zero=>rw[xx,qj,yD,zp (by omega)];rfl
  |succ i=>
   rw[xx,yJ (by rw[hc,Nat.add_mul];omega),hc,show (i+1)*sz+j - sz=i*sz+j by rw[Nat.add_mul];omega]
   exact h2 i (by simpa using hi) j a
theorem SM{α:Type}{N:NP}{w:World}{sz:Nat}{Q:LV->α->Prop}{h:AF}{l:List α}(G:B7 N w sz Q h l)(hN:∀b,N b->b < w.heap.size)(p:∀cs d,Q cs d->∀v∈cs,v.oneCell'=true):
  ∃css:List LV,css.length=l.length∧(∀i (hi:i < css.length) (f:i < l.length),css[i].length=sz∧Q css[i] l[i])∧(∀cs∈css,cs.length=sz)∧Cx w h.v h.n sz css.flatten:=by
 obtain ⟨h1,h2,h3⟩:=G
 have r:∀i,∃cs:LV,∀(hi:i < l.length),cs.length=sz∧Q cs l[i]∧∃b o,h.a=some (aV b o)∧N b∧w.rangeAt b (o+i*sz) cs:=fun i=>by
  by_cases hi:i < l.length
  ·obtain ⟨b,o,cs,g1,J,C,D,I⟩:=h3 i hi
   exact ⟨cs,fun _=>⟨C,I,b,o,g1,J,D⟩⟩
  ·exact ⟨[],fun h=>absurd h hi⟩
 obtain ⟨F,g⟩:=Classical.axiomOfChoice r
 have hl:((List.range l.length).map F).length=l.length:=by simp
 have A:∀i (hi:i < ((List.range l.length).map F).length),((List.range l.length).map F)[i]=F i:=fun i hi=>by simp
 have k:∀cs∈(List.range l.length).map F,cs.length=sz:=fun cs hc=>by
  obtain ⟨i,hi,rfl⟩:=xH.1 hc
  exact (g i (yW.1 hi)).1
 obtain ⟨x,H⟩:=Hh _ sz k
 refine ⟨(List.range l.length).map F,hl,fun i hi f=>by rw[A i hi];exact ⟨(g i f).1,(g i f).2.1⟩,k,⟨by rw[x,hl,h1],fun u s=>?_,h.a,h.c,rfl,?_⟩⟩
 ·obtain ⟨cs,hc,s⟩:=List.mem_flatten.1 s
  obtain ⟨i,hi,rfl⟩:=xH.1 hc
  exact p _ _ (g i (yW.1 hi)).2.1 u s
 ·by_cases h0:h.n=0
  ·exact .inl h0
  ·obtain ⟨_,_,b,o,y,hb,_⟩:=g 0 (by omega)
   refine .inr ⟨b,o,y,hN b hb,fun j u B=>?_⟩
   have q:=(yA.1 B).1
   rw[x,hl] at q
   have e:0 < sz:=by
    rcases Nat.eq_zero_or_pos sz with h|h
    ·subst h;omega
    ·exact h
   have hi:j / sz < l.length:=(Nat.div_lt_iff_lt_mul e).2 q
   have E:j % sz < sz:=Nat.mod_lt _ e
   have K:j / sz*sz+j % sz=j:=by rw[Nat.mul_comm];exact Nat.div_add_mod j sz
   have z:=H (j / sz) (by rw[hl];exact hi) (j % sz) E
   rw[K,B,A] at z
   obtain ⟨_,_,b',L,m,_,t⟩:=g (j / sz) hi
   rw[y] at m
   cases m
   have:=t (j % sz) u z.symm
   rw[show o+j / sz*sz+j % sz=o+j by omega] at this
   exact this
def Ge{α:Type}(w:World)(t sz:Nat)(Q:LV->α->Prop)(l:List α)(e:Ending)(w':World):Prop:=
 ∃h:AF,e=.returned h.v∧h.n=l.length∧Below w.heap.size w w'∧∀i (hi:i < l.length),∃g cs,h.a=some ⟨g,0,none⟩∧w.heap.size<=g∧Ty w' g t∧cs.length=sz∧w'.rangeAt g (i*sz) cs∧Q cs l[i]
theorem SN{α:Type}{w w1 w':World}{t sz:Nat}{Q:LV->α->Prop}{l:List α}{css:List LV}(hl:css.length=l.length)(F:∀i (hi:i < css.length) (y:i < l.length),css[i].length=sz∧Q css[i] l[i])(p:∀cs∈css,cs.length=sz)
 {a:Option Addr}{n c:Nat}(A:n=l.length)(d:w'.ownsRow w.heap.size t sz (.slice a (0+n) c) (0+n) ([]++css.flatten))(hb:Below w.heap.size w w1)(h:w1.grownBy w' (some w.heap.size))(H:w.heap.size<=w1.heap.size):Ge w t sz Q l (.returned (.slice a (0+n) c)) w':=by
 rw[yD,yE] at d
 refine ⟨⟨a,n,c⟩,by rw[yD];rfl,A,hb.trans ⟨h.os,h.tape,h.output,h.size,fun b C=>h.block b (by omega) (fun e=>by cases e;omega)⟩,fun i hi=>?_⟩
 obtain ⟨G,E⟩:=Hh css sz p
 have f:i < css.length:=by omega
 obtain ⟨v,z⟩:=F i f hi
 rcases d.2 with ⟨_,h0⟩|⟨g,cap,D,r,q,s,_,_,_,B⟩
 ·omega
 ·simp only[xN,qk] at r
  obtain ⟨rfl,rfl⟩:=r
  refine ⟨g,css[i],rfl,q,⟨_,s⟩,v,fun j u x=>?_,z⟩
  have k:=(yA.1 x).1
  rw[v] at k
  have m:=(E i f j k).trans x
  rw[<-B] at m
  have o:=(yA.1 m).1
  rw[yP] at o
  rw[zJ,yu (by omega)] at m
  simp only[World.cell?,s]
  simpa using m
section
variable{N:NP}{w:World}
theorem AO(r:Rf):∀v∈Ad r,v.oneCell'=true:=by intro v a;simp[Ad] at a;rcases a with rfl|rfl<;>rfl
theorem An{v:Value}{l:LV}(h:v.oneCell'=true)(hl:∀u∈l,u.oneCell'=true):∀u∈v::l,u.oneCell'=true:=fun u a=>(yO.1 a).elim (fun e=>e▸h) (hl u)
theorem Ai{l m:LV}(h:∀u∈l,u.oneCell'=true)(hl:∀u∈m,u.oneCell'=true):∀u∈l++m,u.oneCell'=true:=fun u a=>(yn.1 a).elim (h u) (hl u)
theorem A8{e:Ex}{c:LV}(h:Bh N w e c):∀v∈c,v.oneCell'=true:=by
 obtain ⟨a,cap,rfl,_⟩:=h.cells
 intro v b
 simp at b
 rcases b with rfl|rfl|rfl|rfl|rfl|rfl<;>rfl
theorem S1(cs:LV)(d:E8)(h:Hf N w cs d):∀v∈cs,v.oneCell'=true:=by
 obtain ⟨_,c,rfl,g⟩:=h;exact An rfl (A8 g)
theorem Pf(cs:LV)(d:Cp)(h:F6 N w cs d):∀v∈cs,v.oneCell'=true:=by
 obtain ⟨_,c,rfl,g⟩:=h;exact An rfl (A8 g)
theorem Ks(cs:LV)(d:AI)(h:CY N w cs d):∀v∈cs,v.oneCell'=true:=by
 obtain ⟨_,_,c0,c1,c2,l,n,k,j,m,rfl,i,g1,g,a,b,f,e,c⟩:=h
 exact An rfl (Ai (AO _) (Ai (A8 i) (Ai (A8 g1) (Ai (A8 g) (Ai (A8 a) (Ai (A8 b) (Ai (A8 f) (Ai (A8 e) (A8 c)))))))))
theorem Pg(cs:LV)(d:BN)(h:E9 N w cs d):∀v∈cs,v.oneCell'=true:=by
 obtain ⟨_,_,_,c,rfl,g⟩:=h;exact An rfl (Ai (AO _) (An rfl (Ai (A8 g) (AO _))))
theorem TP(cs:LV)(d:BM)(h:Fv N w cs d):∀v∈cs,v.oneCell'=true:=by
 obtain ⟨_,c,rfl,g⟩:=h;exact Ai (AO _) (A8 g)
theorem Kt(cs:LV)(d:AJ)(h:CQ N w cs d):∀v∈cs,v.oneCell'=true:=by
 obtain ⟨_,_,_,c0,c1,c2,g,f,rfl,e,g1,b,a,c⟩:=h
 exact An rfl (An rfl (Ai (AO _) (Ai (AO _) (An rfl (Ai (A8 e) (Ai (A8 g1) (Ai (A8 b) (Ai (A8 a) (A8 c)))))))))
theorem Ph(cs:LV)(d:BV)(h:Er N w cs d):∀v∈cs,v.oneCell'=true:=by
 obtain ⟨_,_,_,c,rfl,g⟩:=h;exact An rfl (Ai (AO _) (Ai (AO _) (A8 g)))
end
theorem P1{T e:Nat}(f:Try.prog.underlying T=some (.slice e))(w:World)(a:Option Addr)(n c d b:Nat):(binOp .eql T (.slice a n c) (.slice none d b)).run Try.prog w=.ok (.bool a.isNone) w:=Lib.run_eql_slice_nil w _ _ a n c d b f
def GY(fn:Nat):Prop:=∀(w:World) (n c:Nat),Calls Try.prog fn #[.slice none n c] w fun e w'=>e=.returned (.slice none 0 0)∧w'=w
def GZ(fn T sz:Nat):Prop:=∀(w:World) (a:Addr) (n c:Nat) (xs:LV) (b:TypeInfo) (z:Value),Try.prog.info? T=some b->b.zero=some z->b.size=sz->z.cells.size=sz->b.bytes<=10000->Cx (w.alloc (.cells #[] T)) (.slice (some a) n c) n sz xs->(w.alloc (.cells #[] T)).ownsRow w.heap.size T sz (.slice (some ⟨w.heap.size,0,none⟩) 0 0) 0 []->0+n<=1000000->w.heap.size<=(w.alloc (.cells #[] T)).heap.size->
  Calls Try.prog fn #[.slice (some a) n c] w fun e w'=>∃d c2,e=.returned (.slice d (0+n) c2)∧w'.ownsRow w.heap.size T sz (.slice d (0+n) c2) (0+n) ([]++xs)∧(w.alloc (.cells #[] T)).grownBy w' (some w.heap.size)
theorem Eh{fn T sz:Nat}(f:((Try.prog.info? T).bind fun i=>i.zero.map fun z=>(i.size,z.cells.size,decide (i.bytes<=10000)))=some (sz,sz,true))(y:GY fn)(x:GZ fn T sz){α:Type}{N:NP}{w:World}{Q:LV->α->Prop}{h:AF}{l:List α}(r:B7 N w sz Q h l)(hN:∀b,N b->b < w.heap.size)(q:∀cs d,Q cs d->∀v∈cs,v.oneCell'=true)(I:l.length<=100000):
  Calls Try.prog fn #[h.v] w (Ge w T sz Q l):=by
 obtain ⟨css,hl,F,t,k⟩:=SM r hN q
 have m:=r.1
 obtain ⟨a,n,c⟩:=h
 unfold AF.v at k ⊢
 simp only at m k
 cases a with
 |none=>
  have s:l.length=0:=by
   rcases Nat.eq_zero_or_pos l.length with h|h
   ·exact h
   ·obtain ⟨_,_,_,h1,_⟩:=r.2.2 0 h;cases h1
  refine (y w n c).mono ?_
  rintro e w' ⟨rfl,rfl⟩
  exact ⟨⟨none,0,0⟩,rfl,s.symm,yc _ _,fun i hi=>by omega⟩
 |some a=>
  cases hi:Try.prog.info? T with
  |none=>simp[hi] at f
  |some i0=>
  cases A:i0.zero with
  |none=>simp[hi,A] at f
  |some z=>
  simp only[hi,A,xC,xK,yZ,zo,yR] at f
  have g:Below w.heap.size w (w.alloc (.cells #[] T)):=(yc _ _).alloc (ye _) _
  refine (x w a n c css.flatten i0 z hi A f.1 f.2.1 f.2.2 ?_ ⟨by simp,.inr ⟨w.heap.size,0,#[],rfl,ye _,World.alloc_heap_new _ _,ye _,yv _,by simp,by simp⟩⟩ (by omega) g.size).mono ?_
  ·obtain ⟨r1,r2,H,C,D,B⟩:=k
   refine ⟨r1,r2,H,C,D,B.imp id ?_⟩
   rintro ⟨b,o,e,hb,hc⟩
   exact ⟨b,o,e,yk hb g.size,fun j u G=>(g.cell (p:=(aV b (o+j))) hb).trans (hc j u G)⟩
  ·rintro e w' ⟨J,c2,rfl,h5,E⟩
   exact SN hl F t m h5 g E g.size
theorem DD:GY 71∧GY 72∧GY 73∧GY 74∧GY 75∧GY 76∧GY 77∧GY 78∧GY 80:=by
 refine ⟨?_,?_,?_,?_,?_,?_,?_,?_,?_⟩
 all_goals
  intro w n c
  have q0:=P1 qG
  have b:=P1 qH
  have g:=P1 qI
  have e:=P1 qK
  have i:=P1 qL
  have d:=P1 qM
  have a:=P1 qN
  have f:=P1 qW
  have h:=P1 qE
  first|go_enter Try.func71,Try.ntmps71|go_enter Try.func72,Try.ntmps72|go_enter Try.func73,Try.ntmps73|go_enter Try.func74,Try.ntmps74|go_enter Try.func75,Try.ntmps75|go_enter Try.func76,Try.ntmps76|go_enter Try.func77,Try.ntmps77|go_enter Try.func78,Try.ntmps78|go_enter Try.func80,Try.ntmps80
  go_wp2
  go_ret
  exact ⟨rfl,rfl⟩
theorem DE:GZ 71 55 7∧GZ 72 57 7∧GZ 73 51 51∧GZ 74 59 12∧GZ 75 64 23∧GZ 76 68 37∧GZ 77 70 11∧GZ 78 66 8∧GZ 80 26 6:=by
 refine ⟨?_,?_,?_,?_,?_,?_,?_,?_,?_⟩
 all_goals
  intro w a n c xs D z hi i k p q d e f h
  have A:=ya hi;have y:=ya i;have u:=ya k;have x:=ya p;have t:=ya q
  have m:=ya d;have j:=ya e;have l:=ya f;have v:=ya h
  clear hi i k p q d e f h
  have q0:=P1 qG
  have K:=P1 qH
  have C:=P1 qI
  have I:=P1 qK
  have E:=P1 qL
  have H:=P1 qM
  have G:=P1 qN
  have F:=P1 qW
  have L:=P1 qE
  first|go_enter Try.func71,Try.ntmps71|go_enter Try.func72,Try.ntmps72|go_enter Try.func73,Try.ntmps73|go_enter Try.func74,Try.ntmps74|go_enter Try.func75,Try.ntmps75|go_enter Try.func76,Try.ntmps76|go_enter Try.func77,Try.ntmps77|go_enter Try.func78,Try.ntmps78|go_enter Try.func80,Try.ntmps80
  go_wp2_with (first|(at_builtin;refine JZ (by first|exact qG|exact qH|exact qI|exact qK|exact qL|exact qM|exact qN|exact qW|exact qE) A.o y.o u.o rfl x.o (by decide) t.o w.heap.size rfl _ _ rfl (.slice (some (aV w.heap.size 0)) 0 0) 0 [] rfl j.o (.slice (some a) n c) n xs rfl m.o l.o v.o ?_;intro B c2 J b g;have r:=ya b;have s:=ya g;clear b g))
  go_ret
  exact ⟨B,c2,by simp,r.o,s.o⟩
theorem SO{α:Type}{N:NP}{w:World}{Q:LV->α->Prop}{h:AF}{l:List α}(e:B7 N w 7 Q h l)(hN:∀b,N b->b < w.heap.size)(a:∀cs d,Q cs d->∀v∈cs,v.oneCell'=true)(c:l.length<=100000):Calls Try.prog 71 #[h.v] w (Ge w 55 7 Q l):=Eh (by kernel_rfl) DD.1 DE.1 e hN a c
theorem QL{α:Type}{N:NP}{w:World}{Q:LV->α->Prop}{h:AF}{l:List α}(e:B7 N w 7 Q h l)(hN:∀b,N b->b < w.heap.size)(a:∀cs d,Q cs d->∀v∈cs,v.oneCell'=true)(c:l.length<=100000):Calls Try.prog 72 #[h.v] w (Ge w 57 7 Q l):=Eh (by kernel_rfl) DD.2.1 DE.2.1 e hN a c
theorem Pj{α:Type}{N:NP}{w:World}{Q:LV->α->Prop}{h:AF}{l:List α}(e:B7 N w 51 Q h l)(hN:∀b,N b->b < w.heap.size)(a:∀cs d,Q cs d->∀v∈cs,v.oneCell'=true)(c:l.length<=100000):Calls Try.prog 73 #[h.v] w (Ge w 51 51 Q l):=Eh (by kernel_rfl) DD.2.2.1 DE.2.2.1 e hN a c
theorem QM{α:Type}{N:NP}{w:World}{Q:LV->α->Prop}{h:AF}{l:List α}(e:B7 N w 12 Q h l)(hN:∀b,N b->b < w.heap.size)(a:∀cs d,Q cs d->∀v∈cs,v.oneCell'=true)(c:l.length<=100000):Calls Try.prog 74 #[h.v] w (Ge w 59 12 Q l):=Eh (by kernel_rfl) DD.2.2.2.1 DE.2.2.2.1 e hN a c
theorem SP{α:Type}{N:NP}{w:World}{Q:LV->α->Prop}{h:AF}{l:List α}(e:B7 N w 23 Q h l)(hN:∀b,N b->b < w.heap.size)(a:∀cs d,Q cs d->∀v∈cs,v.oneCell'=true)(c:l.length<=100000):Calls Try.prog 75 #[h.v] w (Ge w 64 23 Q l):=Eh (by kernel_rfl) DD.2.2.2.2.1 DE.2.2.2.2.1 e hN a c
theorem Pk{α:Type}{N:NP}{w:World}{Q:LV->α->Prop}{h:AF}{l:List α}(e:B7 N w 37 Q h l)(hN:∀b,N b->b < w.heap.size)(a:∀cs d,Q cs d->∀v∈cs,v.oneCell'=true)(c:l.length<=100000):Calls Try.prog 76 #[h.v] w (Ge w 68 37 Q l):=Eh (by kernel_rfl) DD.2.2.2.2.2.1 DE.2.2.2.2.2.1 e hN a c
theorem QN{α:Type}{N:NP}{w:World}{Q:LV->α->Prop}{h:AF}{l:List α}(e:B7 N w 11 Q h l)(hN:∀b,N b->b < w.heap.size)(a:∀cs d,Q cs d->∀v∈cs,v.oneCell'=true)(c:l.length<=100000):Calls Try.prog 77 #[h.v] w (Ge w 70 11 Q l):=Eh (by kernel_rfl) DD.2.2.2.2.2.2.1 DE.2.2.2.2.2.2.1 e hN a c
theorem QO{α:Type}{N:NP}{w:World}{Q:LV->α->Prop}{h:AF}{l:List α}(e:B7 N w 8 Q h l)(hN:∀b,N b->b < w.heap.size)(a:∀cs d,Q cs d->∀v∈cs,v.oneCell'=true)(c:l.length<=100000):Calls Try.prog 78 #[h.v] w (Ge w 66 8 Q l):=Eh (by kernel_rfl) DD.2.2.2.2.2.2.2.1 DE.2.2.2.2.2.2.2.1 e hN a c
theorem QP{α:Type}{N:NP}{w:World}{Q:LV->α->Prop}{h:AF}{l:List α}(e:B7 N w 6 Q h l)(hN:∀b,N b->b < w.heap.size)(a:∀cs d,Q cs d->∀v∈cs,v.oneCell'=true)(c:l.length<=100000):Calls Try.prog 80 #[h.v] w (Ge w 26 6 Q l):=Eh (by kernel_rfl) DD.2.2.2.2.2.2.2.2 DE.2.2.2.2.2.2.2.2 e hN a c
mutual
def Jr(w:World)(B:NP):Ex->LV->Prop
 |.mk op n u rn ri args,cs=>∃a cap,cs=[.int .i64 op,.int .i64 n,.int .i64 u,.string rn,.int .i64 ri,.slice a args.length cap]∧args.length<=140737488355328∧rn.size<=maxLen∧EA w B a 0 args
def EA(w:World)(B:NP)(a:Option Addr):Nat->List Ex->Prop
 |_,[]=>True
 |i,e::r=>(∃g cs,a=some ⟨g,0,none⟩∧B g∧Ty w g 26∧w.rangeAt g (i*6) cs∧Jr w B e cs)∧EA w B a (i+1) r
end
theorem S2{w:World}{B:NP}{a:Option Addr}:∀ {l:List Ex} {k:Nat},(∀i (h:i < l.length),∃g cs,a=some ⟨g,0,none⟩∧B g∧Ty w g 26∧w.rangeAt g ((k+i)*6) cs∧Jr w B l[i] cs)->EA w B a k l
 |[],_,_=>by rw[EA];trivial
 |e::r,k,h=>by
  rw[EA]
  refine ⟨h 0 (by simp),S2 fun i hi=>?_⟩
  obtain ⟨g,cs,h1,h2,h3,h4,h5⟩:=h (i+1) (by simpa using hi)
  exact ⟨g,cs,h1,h2,h3,by rw[show k+1+i=k+(i+1) by omega];exact h4,by simpa using h5⟩
theorem Ty.same{w w':World}{b t:Nat}(h:Ty w b t)(hb:w'.heap[b]?=w.heap[b]?):Ty w' b t:=by
 obtain ⟨c,e⟩:=h
 exact ⟨c,hb.trans e⟩
mutual
theorem Jr.same{w w':World}{B c:NP}(d:∀b,B b->b < w.heap.size->c b)(hb:∀b,B b->b < w.heap.size->w'.heap[b]?=w.heap[b]?):∀ {e:Ex} {cs:LV},Jr w B e cs->Jr w' c e cs
 |.mk _ _ _ _ _ args,_,h=>by
  rw[Jr] at h ⊢
  obtain ⟨a,cap,h1,h2,h3,h4⟩:=h
  exact ⟨a,cap,h1,h2,h3,EA.same d hb h4⟩
theorem EA.same{w w':World}{B d:NP}(c:∀b,B b->b < w.heap.size->d b){a:Option Addr}(hb:∀b,B b->b < w.heap.size->w'.heap[b]?=w.heap[b]?):∀ {l:List Ex} {k:Nat},EA w B a k l->EA w' d a k l
 |[],_,h=>by rw[EA];trivial
 |e::r,k,h=>by
  rw[EA] at h ⊢
  obtain ⟨⟨g,cs,h1,h2,h3,h4,h5⟩,h6⟩:=h
  exact ⟨⟨g,cs,h1,c g h2 h3.lt,h3.same (hb g h2 h3.lt),A1 h4 (hb g h2 h3.lt),Jr.same c hb h5⟩,EA.same c hb h6⟩
end
theorem Jr.mk'{w:World}{B:NP}{e:Ex}{a:Option Addr}{cap:Nat}(h1:e.args.length<=140737488355328)(h2:e.rn.size<=maxLen)(h3:EA w B a 0 e.args):
  Jr w B e [.int .i64 e.op,.int .i64 e.n,.int .i64 e.u,.string e.rn,.int .i64 e.ri,.slice a e.args.length cap]:=by
 cases e
 rw[Jr]
 exact ⟨a,cap,rfl,h1,h2,h3⟩
def X6(W:World)(b o:Nat)(args:List Ex)(w':World):Prop:=
 W.grownBy w' (some b)∧(∀p,p≠o+5->w'.cell? ⟨b,p,none⟩=W.cell? ⟨b,p,none⟩)∧(∀t,Ty W b t->Ty w' b t)∧∃a cap,w'.cell? ⟨b,o+5,none⟩=some (.slice a args.length cap)∧EA w' (fun b=>W.heap.size<=b) a 0 args
mutual
def IM:Ex->Prop
 |.mk _ _ _ _ _ args=>args.length<=100000∧IP args
def IP:List Ex->Prop
 |[]=>True
 |e::r=>IM e∧IP r
end
theorem Nm:∀ {l:List Ex},IP l->∀i (h:i < l.length),IM l[i]
 |[],_,i,h=>by simp at h
 |e::r,hl,0,_=>by rw[IP] at hl;exact hl.1
 |e::r,hl,i+1,h=>by rw[IP] at hl;exact Nm hl.2 i (by simpa using h)
theorem K1{W w':World}{b c p:Nat}(h:W.grownBy w' (some b))(hc:c < W.heap.size)(a:c≠b):w'.cell? ⟨c,p,none⟩=W.cell? ⟨c,p,none⟩:=by
 unfold World.cell?
 rw[h.block c hc (fun e=>a (by cases e;rfl))]
theorem Ty.frozen{w:World}{b t p:Nat}(h:Ty w b t):w.frozen? ⟨b,p,none⟩=false:=by
 obtain ⟨c,e⟩:=h
 simp[World.frozen?,e]
theorem Ar{W:World}{b p:Nat}{u:Value}(v:Value)(hc:W.cell? ⟨b,p,none⟩=some u):
  W.grownBy (W.setCell ⟨b,p,none⟩ v) (some b)∧(∀q,q≠p->(W.setCell ⟨b,p,none⟩ v).cell? ⟨b,q,none⟩=W.cell? ⟨b,q,none⟩)∧(∀t,Ty W b t->Ty (W.setCell ⟨b,p,none⟩ v) b t)∧(W.setCell ⟨b,p,none⟩ v).cell? ⟨b,p,none⟩=some v:=by
 refine ⟨⟨rfl,rfl,rfl,by simp,fun i _ a=>zf W (aV b p) i v (fun e=>a (by rw[e]))⟩,fun q d=>xP _ _ _ _ (fun e=>d (by cases e;rfl)),?_,ql _ _ _ hc⟩
 rintro t ⟨c,e⟩
 exact ⟨_,zk W b p c t v e⟩
structure V5 (W:World) (N:Nat->Prop) (b o:Nat) (a:Option Addr) (c:Nat) (args:List Ex) (i:Nat) (wr:World):Prop where
 grown:W.grownBy wr (some b)
 cells:∀p,p≠o+5->wr.cell? ⟨b,p,none⟩=W.cell? ⟨b,p,none⟩
 hdr:wr.cell? ⟨b,o+5,none⟩=some (.slice a args.length c)
 ty:∀t,Ty W b t->Ty wr b t
 rows:∀j (h:j < args.length),∃g cs,a=some ⟨g,0,none⟩∧W.heap.size<=g∧Ty wr g 26∧wr.rangeAt g (j*6) cs∧((j < i∧Jr wr (fun b=>g+1<=b) args[j] cs)∨(i<=j∧Bh N wr args[j] cs))
theorem V5.drew{W:World}{N:NP}{b o:Nat}{a:Option Addr}{c:Nat}{args:List Ex}{i:Nat}{wr:World}(h:V5 W N b o a c args i wr):V5 W N b o a c args i wr.drew:=by
 refine ⟨⟨h.grown.os,h.grown.tape,h.grown.output,h.grown.size,h.grown.block⟩,h.cells,h.hdr,h.ty,fun j d=>?_⟩
 obtain ⟨g,cs,h1,h2,h3,h4,h5⟩:=h.rows j d
 refine ⟨g,cs,h1,h2,h3,h4,h5.imp (fun h=>⟨h.1,Jr.same (w:=wr) (w':=wr.drew) (fun _ h _=>h) (fun _ _ _=>rfl) h.2⟩) (fun h=>⟨h.1,Bh.same (w:=wr) (w':=wr.drew) (fun _ h=>h) (fun _ _=>rfl) h.2⟩)⟩
theorem V5.next{W:World}{N:NP}{b o:Nat}{a:Option Addr}{c:Nat}{args:List Ex}{i:Nat}{wr w4:World}(h:V5 W N b o a c args i wr)(hi:i < args.length)(hb:b < W.heap.size)(hN:∀c,N c->c < W.heap.size∧c≠b){g:Nat}(G:a=some ⟨g,0,none⟩)
 (s:X6 wr g (i*6) args[i].args w4):V5 W N b o a c args (i+1) w4:=by
 obtain ⟨f,l,I,a',D,S,X⟩:=s
 obtain ⟨Y,cs,h1,h2,h3,h4,h5⟩:=h.rows i hi
 obtain rfl:g=Y:=by rw[G] at h1;cases h1;rfl
 have P:=h.grown.size
 have u:b≠g:=by omega
 have K:=h3.lt
 have C:w4.heap[b]?=wr.heap[b]?:=f.block b (by omega) (fun e=>u (by cases e;rfl))
 have J:∀p,w4.cell? (aV b p)=wr.cell? (aV b p):=fun p=>by unfold World.cell?;rw[C]
 refine ⟨⟨f.os.trans h.grown.os,f.tape.trans h.grown.tape,f.output.trans h.grown.output,yo P f.size,fun q U y=>(f.block q (by omega) (fun e=>by cases e;omega)).trans (h.grown.block q U y)⟩,fun p Q=>(J p).trans (h.cells p Q),(J _).trans h.hdr,fun t M=>(h.ty t M).same C,fun j V=>?_⟩
 obtain ⟨g1,L,n,A,H,B,d⟩:=h.rows j V
 obtain rfl:g=g1:=by rw[G] at n;cases n;rfl
 by_cases w:j=i
 ·subst w
  rcases d with ⟨d,_⟩|⟨_,d⟩
  ·omega
  obtain ⟨a0,F,rfl,e1,e2,e3⟩:=d.cells
  obtain ⟨T,r1,r2,R,O,r5⟩:=BZ B
  refine ⟨g,_,n,A,I _ H,Ac ((l _ (by omega)).trans T) (Ac ((l _ (by omega)).trans r1) (Ac ((l _ (by omega)).trans r2) (Ac ((l _ (by omega)).trans R) (Ac ((l _ (by omega)).trans O) (CE S))))),.inl ⟨by omega,Jr.mk' e1 e2 (X.same (fun x m _=>by have:wr.heap.size<=x:=m;show g+1<=x;omega) (fun _ _ _=>rfl))⟩⟩
 ·refine ⟨g,L,n,A,I _ H,fun k v E=>?_,?_⟩
  ·have hl:k < 6:=by
    have h1:=(yA.1 E).1
    rcases d with ⟨_,d⟩|⟨_,d⟩
    ·cases Z:args[j] with
     |mk=>rw[Z,Jr] at d;obtain ⟨_,_,rfl,_⟩:=d;simpa using h1
    ·rw[d.len] at h1;exact h1
   exact (l _ (by omega)).trans (B k v E)
  ·rcases d with ⟨d,z⟩|⟨d,z⟩
   ·exact .inl ⟨by omega,z.same (fun _ h _=>h) (fun x m r=>f.block x r (fun e=>by cases e;have:g+1<=g:=m;omega))⟩
   ·exact .inr ⟨by omega,z.same (fun _ h=>h) (fun x m=>f.block x (by have:=(hN x m).1;omega) (fun e=>by cases e;have:=(hN g m).1;omega))⟩
theorem TQ(N:NP)(Bx:Nat):∀(e:Ex) (b o t:Nat) (cs:LV) (W:World),Bh N W e cs->W.rangeAt b o cs->Ty W b t->IM e->(∀c,N c->c < W.heap.size∧c≠b)->Bx≠b->W.cell? ⟨Bx,0,none⟩=some (.func (.func 79) #[] #[.pointer (some ⟨Bx,0,none⟩)])->
  Calls Try.prog 79 #[.pointer (some ⟨b,o,none⟩),.pointer (some ⟨Bx,0,none⟩)] W fun x w'=>x=.returned (.tuple #[])∧X6 W b o e.args w':=by
 refine I4 fun op nn u rn ri args ih=>?_
 intro b o t cs W X R ty z hN T A
 rw[Bh] at X
 obtain ⟨a,cap,rfl,hl,hr,F⟩:=X
 rw[IM] at z
 obtain ⟨-, -, -, -, -,c5⟩:=BZ R
 have a0:B7 N W 6 (fun c d=>Bh N W d c) ⟨a,args.length,cap⟩ args:=⟨rfl,hl,fun i hi=>by
  obtain ⟨b',o',c,g1,g2,g3,g4⟩:=E7 F i hi
  exact ⟨b',o',c,g1,g2,g4.len,by rw[yD] at g3;exact g3,g4⟩⟩
 have w:=QP a0 (fun c hc=>(hN c hc).1) (fun c d h=>A8 h) z.1
 have a2:=ya w
 have IH:=ya ih
 have HN:=ya hN
 have a6:=ya ty
 have af:=ya z.2
 have ag:=ya z.1
 have ad:=ya (zP W _ A)
 have r:=ya (zP W _ c5)
 have V:=ya T
 have s:=ya A
 show Calls _ _ _ _ (fun x w'=>x=.returned (.tuple #[])∧X6 W b o args w')
 clear a0 w ih hN ty z R F A T hl hr
 go_enter Try.func79,Try.ntmps79
 go_wp2_with (first|(go_at_call 80;refine a2.o.mono ?_;rintro e w1 ⟨⟨m,n',f⟩,rfl,G,D,n⟩;rw[show AF.v ⟨m,n',f⟩=Value.slice m n' f from rfl];simp only at G n;have d5:=(D.cell (p:=(aV b (o+5))) r.o).trans c5;have df:=(Ty.same a6.o (D.block b r.o)).frozen (p:=o+5);have l:=ya D;have O:=ya G;have y:=ya n;clear D G n))
 obtain rfl:=O.o.symm
 have hI:V5 W N b o m f args 0 (w1.setCell (aV b (o+5)) (.slice m args.length f)):=by
  obtain ⟨H,s2,s3,s4⟩:=Ar (.slice m args.length f) d5
  have a8:=l.o.size
  refine ⟨⟨H.os.trans l.o.os,H.tape.trans l.o.tape,H.output.trans l.o.output,yo a8 H.size,fun q hq ab=>(H.block q (by omega) ab).trans (l.o.block q hq)⟩,fun p hp=>(s2 p hp).trans (l.o.cell (p:=(aV b p)) r.o),s4,fun t ht=>s3 t (ht.same (l.o.block b r.o)),fun j hj=>?_⟩
  obtain ⟨g,cs,q1,U,J,M,K,q6⟩:=y.o j hj
  have a1:g≠b:=by have:=r.o;omega
  have hg:(w1.setCell (aV b (o+5)) (.slice m args.length f)).heap[g]?=w1.heap[g]?:=H.block g J.lt (fun e=>a1 (by cases e;rfl))
  refine ⟨g,cs,q1,U,J.same hg,A1 K hg,.inr ⟨yv _,q6.same (fun _ h=>h) (fun x hx=>?_)⟩⟩
  have P:=HN.o x hx
  exact (H.block x (by omega) (fun e=>P.2 (by cases e;rfl))).trans (l.o.block x P.1)
 have L:=ya hI
 have ah:args.length<=100000:=ag.o
 clear hI d5 df c5
 generalize w1.setCell (aV b (o+5)) (.slice m args.length f)=w2 at*
 have e5:=L.o.hdr
 clear l y O
 go_wp2
 clear e5
 go_loopw [17] (fun iv wr=>∃i:Nat,i<=args.length∧iv=iV i∧Hid (V5 W N b o m f args i wr)) (fun iv _=>args.length - (intOf iv).toNat)
 case atStart=>exact ⟨0,yv _,rfl,L⟩
 case round=>
  obtain ⟨i,hi,rfl,k⟩:=hrel
  by_cases B:i < args.length
  ·obtain ⟨g,cs,rfl,U,J,M,K⟩:=k.o.drew.rows i B
   have X:Bh N wr.drew args[i] cs:=K.elim (fun h=>by omega) (fun h=>h.2)
   have hz:=k.o.grown.size
   have Z:=r.o
   have I:=ad.o
   have C:wr.drew.cell? (aV Bx 0)=some (.func (.func 79) #[] #[pV Bx 0]):=(K1 k.o.grown I V.o).trans s.o
   have E:=IH.o args[i] (yw B) g (i*6) 26 cs wr.drew X M J (Nm af.o i B) (fun c hc=>by have:=HN.o c hc;show c < wr.heap.size∧_;omega) (by omega) C
   have S:=ya E
   have a7:(i:Int) < (args.length:Int):=by omega
   have Y:=fun w4=>k.o.drew.next (w4:=w4) B Z HN.o rfl
   have aa:=ya Y
   have e5:=k.o.hdr
   have eB:wr.cell? (aV Bx 0)=some (.func (.func 79) #[] #[pV Bx 0]):=C
   have ac:Hid (wr.drew.cell? (aV Bx 0)=some (.func (.func 79) #[] #[pV Bx 0])∧wr.drew.cell? (aV b (o+5))=some (.slice (some (aV g 0)) args.length f)):=ya ⟨C,e5⟩
   have HQ:Hid (∀w4,V5 W N b o (some (aV g 0)) f args (i+1) w4->w4.cell? (aV Bx 0)=some (.func (.func 79) #[] #[pV Bx 0])∧w4.cell? (aV b (o+5))=some (.slice (some (aV g 0)) args.length f)):=ya (fun w4 h=>⟨(K1 h.grown I V.o).trans s.o,h.hdr⟩)
   clear X U J M K hz Z I C E Y
   go_wp2_with fail
   go_region_held3 (fun w'=>w'.cell? (aV Bx 0)=some (.func (.func 79) #[] #[pV Bx 0])∧w'.cell? (aV b (o+5))=some (.slice (some (aV g 0)) args.length f)) (first|exact ac.o|exact ae.o)
    (first|(go_at_call 79;refine S.o.mono ?_;rintro e w4 ⟨rfl,w⟩;have Q:=ya (aa.o w4 w);have ae:=ya (HQ.o w4 Q.o);clear w))
   go_wp2
   exact ⟨⟨i+1,by omega,by push_cast;rfl,Q⟩,by simp[intOf];omega⟩
  ·obtain rfl:i=args.length:=by omega
   have a7:decide ((args.length:Int) < (args.length:Int))=false:=by simp
   go_wp2
   go_end0
   refine ⟨rfl,k.o.grown,k.o.cells,k.o.ty,m,f,k.o.hdr,S2 fun j hj=>?_⟩
   obtain ⟨g,cs,q1,U,J,M,K⟩:=k.o.rows j hj
   rw[yD]
   exact ⟨g,cs,q1,U,J,M,K.elim (fun h=>h.2.same (fun x hx _=>by have:g+1<=x:=hx;show W.heap.size<=x;omega) (fun _ _ _=>rfl)) (fun h=>by omega)⟩
theorem S3:∀(e:Ex) {N N':NP} {w:World} {e':Ex} {cs:LV},Bh N w e cs->Bh N' w e' cs->e=e':=by
 refine I4 fun op y u rn ri args ih=>?_
 intro N N' w e' cs h k
 cases e' with
 |mk op' nn' u' rn' ri' args'=>
  rw[Bh] at h k
  obtain ⟨a,cap,rfl,_,_,s⟩:=h
  obtain ⟨A,m,q,_,_,f⟩:=k
  simp only[zq,Value.int.injEq,Value.string.injEq,xN,qk,and_true] at q
  obtain ⟨rfl,rfl,rfl,rfl,rfl,rfl,hl,rfl⟩:=q
  have:args=args':=by
   refine zw hl fun i hi d=>?_
   obtain ⟨b,o,c,g1,_,r,l⟩:=E7 s i hi
   obtain ⟨b',z,t,p,_,v,n⟩:=E7 f i d
   rw[g1] at p
   cases p
   have hc:c=t:=by
    refine zw (by rw[l.len,n.len]) fun j x g=>?_
    have h1:=r j _ (yl x)
    have h2:=v j _ (yl g)
    rw[h1] at h2
    exact yh h2
   subst hc
   exact ih _ (yw hi) l n
  rw[this]
mutual
theorem Jr.XB{w:World}{M N:NP}(hM:∀b,M b->b < w.heap.size->N b):∀ {e:Ex} {cs:LV},Jr w M e cs->Bh N w e cs
 |.mk _ _ _ _ _ args,_,h=>by
  rw[Jr] at h
  rw[Bh]
  obtain ⟨a,cap,h1,h2,h3,h4⟩:=h
  exact ⟨a,cap,h1,h2,h3,EA.Xy hM h4⟩
theorem EA.Xy{w:World}{M N:NP}{a:Option Addr}(hM:∀b,M b->b < w.heap.size->N b):∀ {l:List Ex} {k:Nat},EA w M a k l->E6 N w a k l
 |[],_,h=>by rw[E6];trivial
 |e::r,k,h=>by
  rw[EA] at h
  rw[E6]
  obtain ⟨⟨g,cs,h1,h2,h3,h4,h5⟩,h6⟩:=h
  exact ⟨⟨g,0,cs,h1,hM g h2 h3.lt,by rw[yD];exact h4,Jr.XB hM h5⟩,EA.Xy hM h6⟩
end
mutual
def Lr:Ex->Int->Int
 |.mk _ _ _ _ _ args,most=>MP args most 1
def MP:List Ex->Int->Int->Int
 |[],_,n=>n
 |e::r,most,n=>if n < most then MP r most (n+Lr e (most - n)) else n
end
mutual
theorem JL:∀(e:Ex) (most:Int),1<=Lr e most∧Lr e most<=max 1 most
 |.mk _ _ _ _ _ args,most=>by rw[Lr];exact Og args most 1
theorem Og:∀(l:List Ex) (most n:Int),n<=MP l most n∧MP l most n<=max n most
 |[],most,n=>by rw[MP];omega
 |e::r,most,n=>by
  rw[MP]
  split
  ·have h1:=JL e (most - n)
   have h2:=Og r most (n+Lr e (most - n))
   omega
  ·omega
end
mutual
theorem LQ:∀(e:Ex) (most:Int),Lr e most < most->(AV e:Int)+1<=Lr e most
 |.mk _ _ _ _ _ args,most,h=>by
  rw[Lr] at h ⊢
  rw[AV]
  have:=(LR args most 1 (by omega) h).1
  omega
theorem LR:∀(l:List Ex) (most n:Int),1<=n->MP l most n < most->(BK l:Int)+n<=MP l most n∧n+l.length<=MP l most n
 |[],most,n,_,h=>by rw[MP,BK];simp
 |e::r,most,n,hn,h=>by
  rw[MP] at h ⊢
  split at h
  ·rename_i a
   rw[yu a]
   have h1:=JL e (most - n)
   have h2:=Og r most (n+Lr e (most - n))
   obtain ⟨h3,h4⟩:=LR r most (n+Lr e (most - n)) (by omega) h
   have h5:=LQ e (most - n) (by omega)
   rw[BK,yC]
   omega
  ·omega
end
mutual
theorem Pm:∀(e:Ex) (most:Int),most<=5001->Lr e most < most->IM e
 |.mk _ _ _ _ _ args,most,h0,h=>by
  rw[Lr] at h
  rw[IM]
  have:=(LR args most 1 (by omega) h).2
  exact ⟨by omega,Pn args most 1 (by omega) h0 h⟩
theorem Pn:∀(l:List Ex) (most n:Int),1<=n->most<=5001->MP l most n < most->IP l
 |[],most,n,_,_,h=>by rw[IP];trivial
 |e::r,most,n,hn,h0,h=>by
  rw[MP] at h
  rw[IP]
  split at h
  ·rename_i a
   have h1:=JL e (most - n)
   have h2:=Og r most (n+Lr e (most - n))
   exact ⟨Pm e (most - n) (by omega) (by omega),Pn r most (n+Lr e (most - n)) (by omega) h0 h⟩
  ·omega
end
theorem DW{α:Type}{l:List α}{i:Nat}(h:i < l.length):l.drop i=l[i]::l.drop (i+1):=List.drop_eq_getElem_cons h
theorem TR:∀(e:Ex) {N:NP} {w:World} {cs:LV} {most:Int},Bh N w e cs->(∀b,N b->b < w.heap.size)->1<=most->most<=5001->
  Calls Try.prog 23 #[.agg cs.toArray,.int .i64 most] w fun x w'=>x=.returned (.int .i64 (Lr e most))∧Below w.heap.size w w':=by
 refine I4 fun op F u rn ri args ih=>?_
 intro N w cs most h hN a0 a2
 rw[Bh] at h
 obtain ⟨a,cap,rfl,hl,hr,j⟩:=h
 have D:=ya j
 have J:=ya hN
 have IH:=ya ih
 have P:Lr (.mk op F u rn ri args) most=MP args most 1:=rfl
 rw[P]
 generalize U:args.length=m at hl ⊢
 have T:=ya U
 generalize R:MP args most 1=S
 have z:Hid (MP (args.drop 0) most 1=S):=ya R
 clear j hN ih P U R
 go_enter Try.func23,Try.ntmps23
 go_wp2
 have c:=ya ((yc w.heap.size w).alloc (ye _) (.cells #[iV op,iV F,iV u,.string rn,iV ri,.slice a m cap] 26))
 have E:Hid ((w.alloc (.cells #[iV op,iV F,iV u,.string rn,iV ri,.slice a m cap] 26)).cell? (aV w.heap.size 5)=some (.slice a m cap)):=ya (by
  have h:=World.alloc_heap_new w (.cells #[iV op,iV F,iV u,.string rn,iV ri,.slice a m cap] 26)
  simp only[World.cell?,h];rfl)
 obtain ⟨r,l⟩:∃r,r=w.alloc (.cells #[iV op,iV F,iV u,.string rn,iV ri,.slice a m cap] 26):=⟨_,rfl⟩
 rw[<-l] at c E ⊢
 have W:Hid (r.heap.size=w.heap.size+1):=ya (by rw[l];simp)
 clear l
 have y:=ya (yc r.heap.size r)
 go_loopw [5,6] (fun nv L wr=>∃(i:Nat) (n:Int),nv=iV n∧L=iV i∧i<=m∧1<=n∧n<=max 1 most∧Hid (MP (args.drop i) most n=S)∧Hid (Below r.heap.size r wr)) (fun _ L _=>m - (intOf L).toNat)
 case atStart=>exact ⟨0,1,rfl,rfl,yv _,by omega,by omega,z,y⟩
 case round=>
  clear z y
  obtain ⟨i,n,rfl,rfl,hi,a1,Y,I,t⟩:=hrel
  have Z:wr.cell? (aV w.heap.size 5)=some (.slice a m cap):=(t.o.cell (p:=(aV w.heap.size 5)) (by rw[W.o];exact zK _)).trans E.o
  by_cases K:i < m
  ·have g:i < args.length:=by rw[T.o];exact K
   have G:(i:Int) < (m:Int):=by omega
   by_cases v:n < most
   ·obtain ⟨b,o,cs,rfl,O,B,q⟩:=E7 D.o i g
    have f:=c.o.trans (t.o.mono c.o.size)
    have d:=A1 B (f.block b (J.o b O))
    obtain ⟨a',Q,rfl,_⟩:=q.cells
    rw[yD] at d
    obtain ⟨c0,c1,c2,c3,c4,c5⟩:=BZ d
    have V:=ya (IH.o args[i] (yw g) (w:=wr) (most:=most - n) (Bh.same (fun b h=>h) (DC J.o f) q) (fun b h=>yk (J.o b h) f.size) (by omega) (by omega))
    have C:Hid (MP (args.drop (i+1)) most (n+Lr args[i] (most - n))=S):=ya (by
     have h:=I.o
     rw[DW g,MP,yu v] at h
     exact h)
    have k:=JL args[i] (most - n)
    generalize args[i]=x at*
    generalize Lr x (most - n)=s at k V C
    have X:1<=s:=k.1
    have a6:s<=most - n:=by omega
    clear q B d k f
    go_wp2_with (first|(go_at_call 23;refine V.o.mono ?_;rintro e w2 ⟨rfl,A⟩;have H:=ya (t.o.trans (A.mono t.o.size));clear A))
    exact ⟨⟨i+1,n+s,rfl,by go_num,by omega,by omega,by omega,C,H⟩,by simp[intOf];omega⟩
   ·have M:Hid (n=S):=ya (by
     have h:=I.o
     rw[DW g,MP,yq v] at h
     exact h)
    go_wp2
    go_ret
    exact ⟨GJ M.o,c.o.trans (t.o.mono c.o.size)⟩
  ·obtain rfl:i=m:=by omega
   have M:Hid (n=S):=ya (by
    have h:=I.o
    rw[<-T.o,zl,MP] at h
    exact h)
   have G:decide ((i:Int) < (i:Int))=false:=by simp
   go_wp2
   go_ret
   exact ⟨GJ M.o,c.o.trans (t.o.mono c.o.size)⟩
theorem Oh:∀(e:Ex) {N:NP} {w:World} {cs:LV},Bh N w e cs->(∀b,N b->b < w.heap.size)->AV e<=1000000->
  Calls Try.prog 84 #[.agg cs.toArray] w fun x w'=>x=.returned (.int .i64 (AV e))∧Below w.heap.size w w':=by
 refine I4 fun op v u rn ri args ih=>?_
 intro N w cs h hN hd
 rw[Bh] at h
 obtain ⟨a,cap,rfl,hl,Y,k⟩:=h
 have y:=ya k
 have E:=ya hN
 have U:=ya ih
 have Q:AV (.mk op v u rn ri args)=BK args:=rfl
 rw[Q] at hd ⊢
 have L:=ya hd
 generalize M:args.length=m at hl ⊢
 have R:=ya M
 clear k hN ih Q hd M
 go_enter Try.func84,Try.ntmps84
 go_wp2
 have d:=ya ((yc w.heap.size w).alloc (ye _) (.cells #[iV op,iV v,iV u,.string rn,iV ri,.slice a m cap] 26))
 have B:Hid ((w.alloc (.cells #[iV op,iV v,iV u,.string rn,iV ri,.slice a m cap] 26)).cell? (aV w.heap.size 5)=some (.slice a m cap)):=ya (by
  have h:=World.alloc_heap_new w (.cells #[iV op,iV v,iV u,.string rn,iV ri,.slice a m cap] 26)
  simp only[World.cell?,h];rfl)
 obtain ⟨q,l⟩:∃q,q=w.alloc (.cells #[iV op,iV v,iV u,.string rn,iV ri,.slice a m cap] 26):=⟨_,rfl⟩
 rw[<-l] at d B ⊢
 have T:Hid (q.heap.size=w.heap.size+1):=ya (by rw[l];simp)
 clear l
 have s:=ya (yc q.heap.size q)
 go_loopw [3,4] (fun S G wr=>∃i:Nat,S=iV (BK (args.take i))∧G=iV i∧i<=m∧Hid (Below q.heap.size q wr)) (fun _ G _=>m - (intOf G).toNat)
 case atStart=>exact ⟨0,by simp[BK],rfl,yv _,s⟩
 case round=>
  clear s
  obtain ⟨i,rfl,rfl,hi,r⟩:=hrel
  have W:wr.cell? (aV w.heap.size 5)=some (.slice a m cap):=(r.o.cell (p:=(aV w.heap.size 5)) (by rw[T.o];exact zK _)).trans B.o
  by_cases C:i < m
  ·have j:i < args.length:=by rw[R.o];exact C
   have I:(i:Int) < (m:Int):=by omega
   obtain ⟨b,o,cs,rfl,H,A,n⟩:=E7 y.o i j
   have f:=d.o.trans (r.o.mono d.o.size)
   have c:=A1 A (f.block b (E.o b H))
   obtain ⟨a',P,rfl,_⟩:=n.cells
   rw[yD] at c
   obtain ⟨c0,c1,c2,c3,c4,Z⟩:=BZ c
   have t:=LC j
   have g:=IJ j
   have J:=Jb args (i+1)
   have O:=ya (U.o args[i] (yw j) (w:=wr) (Bh.same (fun b h=>h) (DC E.o f) n) (fun b h=>yk (E.o b h) f.size) (by have:=L.o;omega))
   generalize args[i]=x at*
   generalize hdx:AV x=V at t g O ⊢
   generalize K:BK (args.take i)=X at g ⊢
   have F:=ya g
   have h1:(V:Int)<=1000000:=by have:=L.o;omega
   have h2:(X:Int)<=1000000:=by have:=L.o;omega
   clear n A c hdx K t g J f
   go_wp2_with (first|(go_at_call 84;refine O.o.mono ?_;rintro e w2 ⟨rfl,z⟩;have D:=ya (r.o.trans (z.mono r.o.size));clear z))
   refine ⟨⟨i+1,?_,by go_num,by omega,D⟩,by simp[intOf];omega⟩
   rw[F.o]
   congr 1
   omega
  ·obtain rfl:i=m:=by omega
   have I:decide ((i:Int) < (i:Int))=false:=by simp
   go_wp2
   go_ret
   exact ⟨GJ (by rw[<-R.o,yx]),d.o.trans (r.o.mono d.o.size)⟩
def Cm:List (List Us × Bool)->List Us × Bool
 |[]=>([],true)
 |x::r=>if x.2 then (x.1++(Cm r).1,(Cm r).2) else (x.1,false)
theorem FC:∀(l m:List (List Us × Bool)),Cm (l++m)=if (Cm l).2 then ((Cm l).1++(Cm m).1,(Cm m).2) else Cm l
 |[],m=>by simp[Cm]
 |x::r,m=>by
  simp only[yL,Cm,FC r m]
  by_cases h1:x.2=true
  ·by_cases h2:(Cm r).2=true
   ·simp[h1,h2]
   ·simp[h1,h2]
  ·simp[h1]
theorem Nn{l:List (List Us × Bool)}{k:Nat}(h:k < l.length)(a:(Cm (l.take k)).2=true):Cm (l.take (k+1))=((Cm (l.take k)).1++l[k].1,l[k].2):=by
 rw[yr h,FC,a,yu rfl]
 simp only[Cm]
 by_cases h1:l[k].2=true
 ·simp[h1]
 ·simp[h1]
theorem TS(l:List (List Us × Bool))(k:Nat):∃post,(Cm l).1=(Cm (l.take k)).1++post:=by
 have h:=FC (l.take k) (l.drop k)
 rw[xJ] at h
 rw[h]
 by_cases h1:(Cm (l.take k)).2=true
 ·rw[yu h1];exact ⟨_,rfl⟩
 ·rw[yq h1];exact ⟨[],by simp⟩
theorem SQ{l:List (List Us × Bool)}{k:Nat}(h:(Cm (l.take k)).2=false):Cm l=Cm (l.take k):=by
 have h2:=FC (l.take k) (l.drop k)
 rw[xJ,h] at h2
 exact h2
def Da(e:Ex):Bool:=EG e.op e.n e.u e.rn e.ri e.args.length
def TT(a:Array Value):Addr:=match a.getD 0 undef with
 |.pointer (some p)=>p
 |_=>⟨0,0,none⟩
def D8(w:World)(a:Array Value)(e:Kp):List Us × Bool:=if Da e.1 then ([],true) else CS w e.2 e.1 (TT a).block (TT a).off
def Et(w:World)(L:BL)(x:AA):List (List Us × Bool):=List.zipWith (D8 w) (Cw L) (Bb x)
def DL(a:Addr)(to at_:Int)(r:Rf):Us:=⟨a.block,a.off,to,at_,r.name,r.n⟩
def F8(h:AF)(l:List BN)(i:Nat):List Us:=match l[i]? with
 |some d=> [DL (h.at 12 i 1) 4 0 d.on,DL (h.at 12 i 10) (if d.river then 0 else 3) 0 d.crop]
 |none=> []
def G4(h:AF)(l:List BM)(i:Nat):List Us:=match l[i]? with
 |some d=> [DL (h.at 8 i 0) 5 0 d.farm]
 |none=> []
def Ib(L:BL)(l:List AS)(i:Nat):List Us:=match l[i]? with
 |some d=>DL (L.rots.at 23 i 1) 4 0 d.on::(List.range (A5 L i).n).flatMap (G4 (A5 L i) d.turns)
 |none=> []
def DF(h:AF)(l:List AJ)(i:Nat):List Us:=match l[i]? with
 |some d=> [DL (h.at 37 i 2) 5 0 d.farm,DL (h.at 37 i 4) (if d.kind=1 then 0 else 4) 0 d.reach]
 |none=> []
def EO(h:AF)(l:List BV)(i:Nat):List Us:=match l[i]? with
 |some d=> [DL (h.at 11 i 1) 5 0 d.farm,DL (h.at 11 i 3) 4 0 d.reach]
 |none=> []
def Gf(k:Int):Bool:=decide (1<=k)&&decide (k<=3)
def CF(x:AA):Bool:=x.rights.all fun d=>Gf d.kind
def CV(L:BL)(x:AA):List Us:=
 (((List.range L.farms.n).flatMap (F8 L.farms x.farms)++(List.range L.rots.n).flatMap (Ib L x.rots))++(List.range L.rights.n).flatMap (DF L.rights x.rights))++(List.range L.duties.n).flatMap (EO L.duties x.duties)
def Fc(w:World)(L:BL)(x:AA):List (List Us × Bool):=Et w L x++[(if CF x then CV L x else [],CF x)]
def CG(w:World)(L:BL)(x:AA):List Us × Bool:=Cm (Fc w L x)
def WA(N:NP)(w:World)(C D:Addr->Prop)(a:Array Value)(e:Kp):Prop:=
 ∃b o cs,a=#[.pointer (some ⟨b,o,none⟩),.int .i64 e.2]∧w.rangeAt b o cs∧Bh N w e.1 cs∧SH w C e.1 b o∧C ⟨b,o+1,none⟩∧C ⟨b,o+2,none⟩∧C ⟨b,o+3,none⟩∧D ⟨b,o+4,none⟩∧(e.1.op=0->C ⟨b,o+4,none⟩)
structure LS (N:Nat->Prop) (w:World) (C D:Addr->Prop) (Bu:Nat) (L:BL) (x:AA):Prop where
 ok:L.Ok
 heads:JW L Bu w
 box:C ⟨Bu,0,none⟩
 src:∀j,19<=j->j<=25->C ⟨L.s,j,none⟩
 turns:∀i,i < L.rots.n->C (L.rots.at 23 i 22)
 river:∀i (h:i < x.farms.length),C (L.farms.at 12 i 3)∧w.cell? (L.farms.at 12 i 3)=some (.bool x.farms[i].river)
 kind:∀i (h:i < x.rights.length),C (L.rights.at 37 i 0)∧w.cell? (L.rights.at 37 i 0)=some (.int .i64 x.rights[i].kind)
 top:AW (WA N w C D) (Cw L) (Bb x)
 nfarms:L.farms.n=x.farms.length
 nrots:L.rots.n=x.rots.length
 nturns:∀i (h:i < x.rots.length),(A5 L i).n=x.rots[i].turns.length
 nrights:L.rights.n=x.rights.length
 nduties:L.duties.n=x.duties.length
 few:∀e∈Bb x,0<=e.2∧e.2<=1000000
 short:(CV L x).length<=1000000
def X7(a:World)(C D:Addr->Prop)(W:World):Prop:=(∀p,C p->W.cell? p=a.cell? p)∧∀p,D p->∃z,W.cell? p=some (.int .i64 z)
theorem G1{N:NP}{w:World}{C D:Addr->Prop}{Bu:Nat}{L:BL}{x:AA}(h:LS N w C D Bu L x):(Et w L x).length=(Cw L).length:=by
 unfold Et
 rw[List.length_zipWith,<-h.top.length];simp
end Go.Proofs.Ytghepahgkcigpaa
namespace Go.Proofs.Ytghepahgkcigpaa
open Go.RowKit
attribute [local go_sem] Oper.semAt_some
def FD(x:AA):Bool:=decide (x.lets.length<=64)&&(decide (x.crops.length<=32)&&(decide (x.reaches.length<=64)&&(decide (x.farms.length<=600)&&(decide (x.rots.length<=64)&&(decide (x.rights.length<=256)&&decide (x.duties.length<=256))))))
def En(l:List AS):Bool:=l.all fun d=>decide (d.turns.length<=64)
def Fe(x:AA):Bool:=(Bb x).all fun e=>decide (AV e.1<=8)
def Oi(w:World)(ok:Bool)(e:Ending)(w':World):Prop:=Below w.heap.size w w'∧e=if ok then .returned (.tuple #[]) else .panicked [{v:=.iface 38 (.int .i64 2),recovered:=false}]
def LJ(Bs:Nat)(a:World)(p:NP)(k:Nat)(O:NP)(W:World):Prop:=(∀b,O b->Bs < b)∧Below (Bs+1) a W∧p k
theorem LJ.stays{Bs:Nat}{j:World}{p:NP}(n:j.heap.size=Bs+1):Ep (LJ Bs j p):=by
 intro k O W m W' d e f i c a g
 have hs:=d.2.1.size
 refine ⟨fun b hb=>(g b hb).elim (d.1 b) (fun h=>by omega),d.2.1.trans ⟨f,i,c,e,fun b hb=>a b (fun l=>?_) (by omega)⟩,d.2.2⟩
 have:=d.1 b l
 omega
def QQ(x:AA)(k:Nat):Prop:=∀j (h:j < (Bb x).length),j < k->AV (Bb x)[j].1<=8
def Xh(N:NP)(s:Nat)(w:World)(x:AA)(k b o:Nat):Prop:=∃(h:k < (Bb x).length) (cs:LV),(b=s∨N b)∧w.rangeAt b o cs∧Bh N w (Bb x)[k].1 cs
theorem No{B:Nat}{a w:World}(h:Below B a w){g:Nat}(b:B<=g)(o:Obj):Below B a (w.putObj g o):=
 h.trans ⟨rfl,rfl,rfl,by simp,fun k c=>World.putObj_heap_other (by omega)⟩
theorem K3{B:Nat}{a w:World}(h:Below B a w){g:Nat}(b:B<=g)(row:Array Value):Below B a (w.setRow g row):=
 h.trans ⟨rfl,rfl,rfl,by simp[World.setRow],fun k c=>by simp[World.setRow,yU,show g≠k by omega]⟩
section
variable{N:NP}{w:World}
theorem Oj{e:Ex}{c:LV}(h:Bh N w e c):∀v∈c,v.oneCell'=true:=by
 obtain ⟨a,cap,rfl,_⟩:=h.cells
 intro v b
 simp at b
 rcases b with rfl|rfl|rfl|rfl|rfl|rfl<;>rfl
theorem K4{t:AF}{cs:LV}{d:AS}(h:I6 N w t cs d):∀v∈cs,v.oneCell'=true:=by
 obtain ⟨_,_,c0,c1,c2,rfl,c,g1,b,_⟩:=h
 intro v a
 simp only[Ad,yO,yn,zs,xD] at a
 rcases a with rfl|(rfl|rfl)|rfl|h|h|h|rfl
 ·rfl
 ·rfl
 ·rfl
 ·rfl
 ·exact Oj c v h
 ·exact Oj g1 v h
 ·exact Oj b v h
 ·rfl
theorem Np{t:AF}{cs:LV}{d:AS}(h:I6 N w t cs d)(_:cs.length=23):cs[22]?=some (.slice t.a t.n t.c):=by
 obtain ⟨_,_,c0,c1,c2,rfl,e,g1,b,_⟩:=h
 obtain ⟨_,_,rfl,_⟩:=e.cells
 obtain ⟨_,_,rfl,_⟩:=g1.cells
 obtain ⟨_,_,rfl,_⟩:=b.cells
 rfl
theorem QR{t:AF}{cs:LV}{d:AS}(h:I6 N w t cs d):t.n=d.turns.length:=by
 obtain ⟨_,_,_,_,_,_,_,_,_,h,_⟩:=h
 exact h
end
def VY(s:Nat)(F:Bool)(w:World)(a:Act)(w2:World):Prop:=w2=w∧∃u6 u7 u8 u9 b B i p k j o a1 a0 E d G S P T R e D q r L v A C Y f h Z x H u I l U M O c J g y K V m N z Q W X t n,a={tmps:=#[.pointer (some ⟨s,0,none⟩),undef,.bool F,undef,undef,undef,u6,u7,u8,u9,b,B,i,p,k,j,o,a1,a0,E,d,G,S,P,T,R,e,D,q,r,L,v,A,C,Y,f,h,Z,x,H,u,I,l,U,M,O,c,J,g,y,K,V,m,N,z,Q,W,X,t,n,undef,undef,undef,undef,undef,undef,undef,undef,undef,undef,undef,undef,undef,undef,undef,undef,undef,undef,undef,undef,undef,undef,undef,undef,undef,undef,undef,undef,undef],defers:=[]}
theorem KR{N:NP}{w:World}{L:BL}{cs:LV}{x:AA}(h:Ba N w L cs x)(hr:w.rangeAt L.s 0 cs)(hN:∀b,N b->b < w.heap.size)(hs:L.s < w.heap.size)(hd:∀e∈Bb x,AV e.1<=1000000):
  Calls Try.prog 25 #[.pointer (some ⟨L.s,0,none⟩)] w (Oi w (FD x&&(En x.rots&&Fe x))):=by
 have HV:=ya h
 have aa:=ya hr
 have HN:=ya hN
 have HD:=ya hd
 have J:=ya (LM (Bs:=w.heap.size) (h.same (fun b h=>h) (DC hN ((yc _ _).alloc (ye _) (.cells #[pV L.s 0] 0)))) (A1 hr (((yc _ _).alloc (ye _) (.cells #[pV L.s 0] 0)).block _ hs)) (by
  have:(w.alloc (.cells #[pV L.s 0] 0)).heap[w.heap.size]?=some (.cells #[pV L.s 0] 0 (0,0)):=World.alloc_heap_new _ _
  simp only[World.cell?,this];simp))
 have T:w.cell? (aV L.s 19)=some L.lets.v:=(((yc w.heap.size w).alloc (ye _) (.cells #[pV L.s 0] 0)).cell (p:=(aV L.s 19)) hs).symm.trans J.o.lets
 have a0:w.cell? (aV L.s 20)=some L.crops.v:=(((yc w.heap.size w).alloc (ye _) (.cells #[pV L.s 0] 0)).cell (p:=(aV L.s 20)) hs).symm.trans J.o.crops
 have S:w.cell? (aV L.s 21)=some L.reaches.v:=(((yc w.heap.size w).alloc (ye _) (.cells #[pV L.s 0] 0)).cell (p:=(aV L.s 21)) hs).symm.trans J.o.reaches
 have P:w.cell? (aV L.s 22)=some L.farms.v:=(((yc w.heap.size w).alloc (ye _) (.cells #[pV L.s 0] 0)).cell (p:=(aV L.s 22)) hs).symm.trans J.o.farms
 have ap:w.cell? (aV L.s 23)=some L.rots.v:=(((yc w.heap.size w).alloc (ye _) (.cells #[pV L.s 0] 0)).cell (p:=(aV L.s 23)) hs).symm.trans J.o.rots
 have U:w.cell? (aV L.s 24)=some L.rights.v:=(((yc w.heap.size w).alloc (ye _) (.cells #[pV L.s 0] 0)).cell (p:=(aV L.s 24)) hs).symm.trans J.o.rights
 have Y:w.cell? (aV L.s 25)=some L.duties.v:=(((yc w.heap.size w).alloc (ye _) (.cells #[pV L.s 0] 0)).cell (p:=(aV L.s 25)) hs).symm.trans J.o.duties
 unfold AF.v at T a0 S P ap U Y
 have n1:=h.lets.1;have n2:=h.crops.1;have n3:=h.reaches.1;have n4:=h.farms.1;have n5:=h.rots.1;have n6:=h.rights.1;have n7:=h.duties.1
 have hF:FD x=(decide (L.lets.n<=64)&&(decide (L.crops.n<=32)&&(decide (L.reaches.n<=64)&&(decide (L.farms.n<=600)&&(decide (L.rots.n<=64)&&(decide (L.rights.n<=256)&&decide (L.duties.n<=256))))))):=by unfold FD;rw[n1,n2,n3,n4,n5,n6,n7]
 have HF:=ya hF
 have N5:=ya n5
 clear h hr hN hd J n1 n2 n3 n4 n5 n6 n7 hF
 refine CM (n:=10) Try.func25 rfl ?_
 simp only[Try.ntmps25,yp,yC,yK,Nat.reduceAdd,Nat.reduceSub,zQ,zR,xl,xd,yE,yL]
 generalize cn:FD x=F at HF ⊢
 clear cn
 refine Aq (Af (Code.wp_mono (Q:=Exit.then (VY L.s F w) (fun _ _ _=>False)) ?_ ?_))
 rotate_left
 ·go_wp2
  all_goals
   first
   |(obtain rfl:F=false:=by rw[HF.o];simp only[Bool.and_eq_false_iff,xz];omega
     exact ⟨rfl,_,_,_,_,_,_,_,_,_,_,_,_,_,_,_,_,_,_,_,_,_,_,_,_,_,_,_,_,_,_,_,_,_,_,_,_,_,_,_,_,_,_,_,_,_,_,_,_,_,_,_,_,_,_,rfl⟩)
   |(obtain rfl:F=decide ((L.duties.n:Int)<=256):=by rw[HF.o,zu];simp only[ym,yR];omega
     exact ⟨rfl,_,_,_,_,_,_,_,_,_,_,_,_,_,_,_,_,_,_,_,_,_,_,_,_,_,_,_,_,_,_,_,_,_,_,_,_,_,_,_,_,_,_,_,_,_,_,_,_,_,_,_,_,_,_,rfl⟩)
 rintro (_|id|l|_|ch|_) a' w' h
 rotate_left
 ·exact h.elim
 ·exact h.elim
 ·exact h.elim
 ·exact h.elim
 ·exact h.elim
 obtain ⟨rfl,u6,u7,u8,u9,bn,b8,ca,co,cb,cc,b3,c7,cm,bw,bo,ba,cg,cv,ci,cx,bp,bv,b4,cp,cf,cq,ce,b9,cl,aw,ay,bm,bu,ct,b5,bb,az,cj,be,bh,av,cu,ax,c8,bz,bk,cd,bg,b7,bi,ck,c6,bt,bs,rfl⟩:=h
 clear T a0 S P U Y
 refine Aq (Af ?_)
 go_wp2
 go_loopw [2,65] (fun fv iv wr=>∃i:Nat,i<=L.rots.n∧iv=iV i∧fv=.bool (F&&En (x.rots.take i))∧Hid (Below w'.heap.size w' wr)) (fun _ iv _=>L.rots.n - (intOf iv).toNat)
 case atStart=>exact ⟨0,yv _,rfl,by simp[En],ya (yc _ _)⟩
 case round=>
  obtain ⟨i,hi,rfl,rfl,u⟩:=hrel
  by_cases c9:i < L.rots.n
  ·have ak:i < x.rots.length:=by rw[<-N5.o];exact c9
   obtain ⟨b,o,f,he,cr,t,B,C⟩:=HV.o.rots.2.2 i ak
   have B:=A1 B (u.o.block b (HN.o b cr))
   have M:=K4 C
   have a7:=Np C t
   have K:=QR C
   have ht:En (x.rots.take (i+1))=(En (x.rots.take i)&&decide ((A5 L i).n<=64)):=by
    rw[yr ak]
    unfold En
    rw[z8,K]
    simp
   have HT:=ya ht
   have bj:(i:Int) < (L.rots.n:Int):=by omega
   have cy:L.rots.n<=140737488355328:=by have:=HV.o.rots.2.1;have:=N5.o;omega
   have al:=ya B
   have Z:=ya (yy M)
   have a8:Hid ((Try.prog.info? 64).map (·.size)=some f.length):=ya (by rw[t];kernel_rfl)
   have R:Hid ((Try.prog.info? 64).map (·.size)=some f.toArray.size):=ya (by rw[yp];exact a8.o)
   have V:=ya t
   rw[he] at*
   have d3:((wr.alloc (.cells #[.string ⟨#[]⟩,.string ⟨#[]⟩,iV 0,iV 0,iV 0,iV 0,iV 0,.string ⟨#[]⟩,iV 0,.slice none 0 0,iV 0,iV 0,iV 0,.string ⟨#[]⟩,iV 0,.slice none 0 0,iV 0,iV 0,iV 0,.string ⟨#[]⟩,iV 0,.slice none 0 0,.slice none 0 0] 64)).setRow wr.heap.size f.toArray).cell? (aV wr.heap.size 22)=some (.slice (A5 L i).a (A5 L i).n (A5 L i).c):=by
    have cw:(wr.alloc (.cells #[.string ⟨#[]⟩,.string ⟨#[]⟩,iV 0,iV 0,iV 0,iV 0,iV 0,.string ⟨#[]⟩,iV 0,.slice none 0 0,iV 0,iV 0,iV 0,.string ⟨#[]⟩,iV 0,.slice none 0 0,iV 0,iV 0,iV 0,.string ⟨#[]⟩,iV 0,.slice none 0 0,.slice none 0 0] 64)).heap[wr.heap.size]?=some (.cells #[.string ⟨#[]⟩,.string ⟨#[]⟩,iV 0,iV 0,iV 0,iV 0,iV 0,.string ⟨#[]⟩,iV 0,.slice none 0 0,iV 0,iV 0,iV 0,.string ⟨#[]⟩,iV 0,.slice none 0 0,iV 0,iV 0,iV 0,.string ⟨#[]⟩,iV 0,.slice none 0 0,.slice none 0 0] 64 (0,0)):=World.alloc_heap_new _ _
    simp only[World.cell?,World.setRow,yU,cw]
    simp[a7]
   clear B K ht t he M C
   generalize En (x.rots.take i)=G at HT ⊢
   cases ao:(F&&G) with
   |false=>
    go_wp2_with (first|(refine yf rfl 64 _ rfl b (o+i*23) rfl f _ al.o qX rfl a8.o ?_)|(refine z6 rfl 64 _ _ rfl wr.heap.size f.toArray rfl rfl 64 _ (World.alloc_heap_new _ _) R.o (by simp[V.o]) Z.o ?_))
    refine ⟨⟨i+1,by omega,by push_cast;rfl,by rw[HT.o];revert ao;cases F<;>cases G<;>simp<;>omega,ya (K3 (u.o.alloc u.o.size _) u.o.size _)⟩,by simp[intOf];omega⟩
   |true=>
    go_wp2_with (first|(refine yf rfl 64 _ rfl b (o+i*23) rfl f _ al.o qX rfl a8.o ?_)|(refine z6 rfl 64 _ _ rfl wr.heap.size f.toArray rfl rfl 64 _ (World.alloc_heap_new _ _) R.o (by simp[V.o]) Z.o ?_))
    refine ⟨⟨i+1,by omega,by push_cast;rfl,by rw[HT.o];revert ao;cases F<;>cases G<;>simp<;>omega,ya (K3 (u.o.alloc u.o.size _) u.o.size _)⟩,by simp[intOf];omega⟩
  ·obtain rfl:i=L.rots.n:=by omega
   have bj:decide ((L.rots.n:Int) < (L.rots.n:Int))=false:=by simp
   have ar:x.rots.take L.rots.n=x.rots:=by rw[N5.o];exact yx
   rw[ar]
   clear ar
   go_wp2
   cases ac:(F&&En x.rots) with
   |false=>
    have g:(F&&(En x.rots&&Fe x))=false:=by rw[<-zM,ac];rfl
    rw[g]
    clear g
    refine Aq (Af ?_)
    go_wp2_with (first|(go_at_call 50;refine (D7 _ _).mono ?_;rintro e w2 ⟨rfl,rfl⟩))
    exact ⟨u.o,rfl⟩
   |true=>
    have g:(F&&(En x.rots&&Fe x))=Fe x:=by rw[<-zM,ac];rfl
    rw[g]
    clear g
    refine Aq (Af ?_)
    go_wp2_with (first|(go_at_call 50;refine (Df _ _).mono ?_;rintro e w2 ⟨rfl,rfl⟩))
    refine Aq (Af ?_)
    go_wp2_with (first|(go_at_call 67;refine (G0 _ _).mono ?_;rintro e w2 ⟨rfl,rfl⟩))
    refine F9 ?_
    have HE:=ya (JJ HV.o aa.o)
    have A:Below w'.heap.size w' (w2.alloc (.cells #[pV L.s 0] 52)):=u.o.alloc u.o.size _
    have bq:=ya A
    have X:(w2.alloc (.cells #[pV L.s 0] 52)).cell? (aV w2.heap.size 0)=some (pV L.s 0):=by
     have:(w2.alloc (.cells #[pV L.s 0] 52)).heap[w2.heap.size]?=some (.cells #[pV L.s 0] 52 (0,0)):=World.alloc_heap_new _ _
     simp only[World.cell?,this];simp
    have an:(w2.alloc (.cells #[pV L.s 0] 52)).heap.size=w2.heap.size+1:=by simp
    have ab:=ya X
    have y:=ya an
    clear X an A
    have au:∀W,Below (w2.heap.size+1) (w2.alloc (.cells #[pV L.s 0] 52)) W->Below w'.heap.size w' W:=fun W hW=>bq.o.trans (hW.mono (Nat.le_succ_of_le u.o.size))
    have m:=ya au
    clear au
    have aq:Hid (w'.heap.size<=w2.heap.size):=ya u.o.size
    clear u
    generalize d1:w2.alloc (.cells #[pV L.s 0] 52)=W1 at*
    refine EF (n:=10) Try.func25 rfl (fun _ _=>rfl) (LN 9 (by omega) w2.heap.size L HV.o.ok) (fun a ha=>by
      obtain ⟨i,hi,rfl⟩:=zc.1 ha
      obtain ⟨b,o,c,h1,_⟩:=HE.o.get i hi (by rw[<-HE.o.length];exact hi)
      rw[h1];rfl)
     (LJ w2.heap.size W1 (QQ x)) (fun _ _ _=>False) (fun ch=>LJ w2.heap.size W1 (fun _=>ch=[{v:=.iface 38 (iV 2),recovered:=false}]∧Fe x=false) 0)
     (fun k a=>(LJ w2.heap.size W1 fun k=>QQ x k∧∃b o lt,Xh N L.s w' x k b o∧a={tmps:=#[pV L.s 0,undef,.bool true,undef,u4,pV b o,u6,u7,u8,u9,bn,b8,ca,co,cb,cc,b3,c7,cm,bw,bo,ba,cg,cv,ci,cx,bp,bv,b4,cp,cf,cq,ce,b9,cl,aw,ay,bm,bu,ct,b5,bb,az,cj,be,bh,av,cu,ax,c8,bz,bk,cd,bg,b7,bi,ck,c6,bt,bs,pV L.s 0,pV L.s 0,pV L.s 23,.slice L.rots.a L.rots.n L.rots.c,iV L.rots.n,iV L.rots.n,.bool false,u67,u68,u69,u70,u71,u72,u73,u74,u75,u76,.bool true,.tuple #[],pV L.s 0,.func (.func 89) #[] #[pV w2.heap.size 0],pV b o,iV lt,undef,undef,undef,undef,undef,undef],defers:=[]}) k) ?_ (fun _ _ _ _ _ _ h=>h.elim) (fun _ _ O W O' W' h=>LJ.stays y.o 0 O W O' W' h) ?_ ?_ (fun _ _ _ h=>h.elim) (fun _ h=>by cases h) ?_ ?_ ?_ ?_ (fun _ _ _ _ _ _ h=>h.elim) ?_
    ·exact LJ.stays y.o
    ·exact fun a=>LJ.stays y.o
    ·rintro k O W ⟨hO,hb,hp⟩
     exact LM (HV.o.same (fun b h=>h) (DC HN.o (m.o W hb))) (A1 aa.o ((m.o W hb).block _ hs)) ((hb.cell (p:=(aV w2.heap.size 0)) (zK _)).trans ab.o)
    ·exact ⟨fun _ h=>h.elim,yc _ _,fun j _ E=>absurd E (by omega)⟩
    ·intro k hk O W l E hO hl _
     obtain ⟨b,o,f,h1,h2,h3,h4⟩:=HE.o.get k hk (by rw[<-HE.o.length];exact hk)
     have I:k < (Bb x).length:=by rw[<-HE.o.length];exact hk
     rw[h1]
     generalize (Bb x)[k].2=lt
     have H:=ya E
     have HP:Hid (Xh N L.s w' x k b o):=ya ⟨I,f,h2,h3,h4⟩
     clear E hO hl h1 h2 h3 h4
     gi_wp2
     first
     |exact ⟨Cd.refl _ _,H.o.1,H.o.2.1,H.o.2.2,b,o,lt,HP.o,rfl⟩
     |(rename_i hK;exact hK _ _ ⟨Cd.refl _ _,H.o.1,H.o.2.1,H.o.2.2,b,o,lt,HP.o,rfl⟩)
     |(rename_i hK _;exact hK _ _ ⟨Cd.refl _ _,H.o.1,H.o.2.1,H.o.2.2,b,o,lt,HP.o,rfl⟩)
     |fail
    ·rintro k hk O W l a1 hl ad aj ⟨hO,hb,hd,b,o,lt,⟨I,f,h1,h2,h3⟩,rfl⟩
     obtain ⟨ea,cz,rfl,e1,e2,e3⟩:=h3.cells
     have am:b < w'.heap.size:=by
      rcases h1 with rfl|h1
      ·exact hs
      ·exact HN.o b h1
     obtain ⟨c0,c1,c2,c3,c4,c5⟩:=BZ (A1 h2 ((m.o W hb).block b am))
     have hw:Bh N W (Bb x)[k].1 _:=h3.same (fun b h=>h) (DC HN.o (m.o W hb))
     have r:=ya (SB (Bb x)[k].1 hw (fun b A=>yk (HN.o b A) (m.o W hb).size) (HD.o _ (yw I)))
     have HO:=ya hO
     have ae:=ya aj
     have ag:=y.o
     have ai:Hid (w2.heap.size+1<=W.heap.size):=ya (by rw[<-ag];exact hb.size)
     clear ag
     have af:=ya hb
     have bd:=ya hd
     have HK:=ya I
     have hX:Hid (∀d,d=AV (Bb x)[k].1->(d<=8->QQ x (k+1))∧(8 < d->Fe x=false)):=ya fun d d0=>by
      refine ⟨fun h j E d2=>?_,fun h=>?_⟩
      ·rcases zV j k with h9|h9
       ·exact bd.o j E h9
       ·obtain rfl:j=k:=by omega
        omega
      ·unfold Fe
       rw[zZ]
       exact ⟨_,yw HK.o,by simp;omega⟩
     clear aj hw hO hb hd hl ad h2 h3 e1 e2 e3 h1 am
     by_cases h8:AV (Bb x)[k].1<=8
     ·have HT:=ya ((hX.o _ rfl).1 h8)
      have z:decide ((AV (Bb x)[k].1:Int)<=8)=true:=by simp;omega
      clear h8 hX
      generalize AV (Bb x)[k].1=dd at r z
      gi_wp2_with fail
      refine ⟨trivial,zm (CallsIn.inRound l (za.2 r.o)) ?_⟩
      rintro e w3 ⟨rfl,q⟩
      gi_wp2_with fail
      refine ⟨trivial,zm (CallsIn.inRound l (za.2 (Df _ _))) ?_⟩
      rintro e w4 ⟨rfl,rfl⟩
      try gi_wp2_with fail
      exact ⟨⟨q.size,fun b hb=>q.block b (ae.o b hb)⟩,HO.o,af.o.trans (q.mono ai.o),HT.o⟩
     ·have HT:=ya ((hX.o _ rfl).2 (by omega))
      have z:decide ((AV (Bb x)[k].1:Int)<=8)=false:=by simp;omega
      clear h8 hX
      generalize AV (Bb x)[k].1=dd at r z
      gi_wp2_with fail
      refine ⟨trivial,zm (CallsIn.inRound l (za.2 r.o)) ?_⟩
      rintro e w3 ⟨rfl,q⟩
      gi_wp2_with fail
      refine ⟨trivial,zm (CallsIn.inRound l (za.2 (D7 _ _))) ?_⟩
      rintro e w4 ⟨rfl,rfl⟩
      try gi_wp2_with fail
      exact ⟨rfl,⟨q.size,fun b hb=>q.block b (ae.o b hb)⟩,HO.o,af.o.trans (q.mono ai.o),rfl,HT.o⟩
    ·rintro - D O W hD - E a2
     have a6:Fe x=true:=by
      unfold Fe
      rw[yM]
      intro e he
      obtain ⟨j,ah,rfl⟩:=zc.1 he
      simp only[yR]
      exact E.2.2 j ah (by rw[HE.o.length];exact ah)
     rw[a6]
     exact ⟨by simp,.inl ⟨_,_,rfl,run_takeDeferred a2,⟨_,zI rfl _ _ _,No (m.o W E.2.1) (by have:=y.o;have:=aq.o;omega) _,rfl⟩⟩⟩
    ·rintro D ch O W hD - ⟨-,hb,rfl,hd⟩ a2
     rw[hd]
     exact ⟨by simp,.inl ⟨_,_,rfl,run_takeDeferred a2,⟨No (m.o W hb) (by have:=y.o;have:=aq.o;omega) _,rfl⟩⟩⟩
end Go.Proofs.Ytghepahgkcigpaa
