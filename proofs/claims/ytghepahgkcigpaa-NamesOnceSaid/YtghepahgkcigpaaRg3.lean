/- Parts of the proof, in short words: Of Og Ya Nh Pa Pb Pc Pd Va Yb Oh Ni Qa Pg Ph Pi Pj Pk Pf -/
import Derived.Test.YtghepahgkcigpaaRg0
import Derived.Test.YtghepahgkcigpaaRg1
import Derived.Deep.Cut
import Derived.Deep.RegionHeld2
import Derived.StillTailTactics
import Derived.Test.YtghepahgkcigpaaRg2
import Derived.Lib.SliceRun
import Derived.Deep.RegionHeld3
import Derived.BigFrameIn
set_option maxRecDepth 100000
set_option maxHeartbeats 32000000
set_option linter.unusedSimpArgs false
namespace Go.Proofs.Ytghepahgkcigpaa
open Go.RowKit
structure T0 (n l By Bi B0:Nat) (O:Nat->Prop) (X:List Us) (w0:World) (C:Addr->Prop) (J:Nat->(Nat->Prop)->World->Prop) (Jx:(Nat->Prop)->World->Prop) (Jp:List PanicEntry->(Nat->Prop)->World->Prop):Prop where
 stays:Dp J
 hd:∀k O W,J k O W->∀p,C p->W.cell? p=w0.cell? p
 hdx:∀O W,Jx O W->∀p,C p->W.cell? p=w0.cell? p
 round:∀k (hk:k < X.length) W,IG J O B0 l By Bi k W->YieldAt Fence.wide (n - 1) Try.prog l X[k].v W (Jw J Jx Jp O (k+1) W)
theorem Oj(n:Nat)(hn:1<=n)(l By Bi B0:Nat)(lt:Int)(hlt:0<=lt∧lt<=1000000)(O:NP)(X:List Us)(w0:World)(C:Addr->Prop)(J:Nat->NP->World->Prop)(Jx:NP->World->Prop)(Jp:List PanicEntry->NP->World->Prop)
 (hc:T0 n l By Bi B0 O X w0 C J Jx Jp):∀(e:Ex) (b o:Nat) (pre:List Us) (W:World),IG J O B0 l By Bi pre.length W->PV w0 C e b o->(∃post,X=pre++((Cg w0 lt e b o).1++post))->
   ((Cg w0 lt e b o).2=false->∀W',J (pre.length+(Cg w0 lt e b o).1.length) O W'->Jp (Ek 170) O W')->
   Calls Try.prog 82 #[.pointer (some ⟨b,o,none⟩),.int .i64 lt,.pointer (some ⟨By,0,none⟩),.pointer (some ⟨Bi,0,none⟩)] W (MX J Jx Jp O (pre.length+(Cg w0 lt e b o).1.length) (Cg w0 lt e b o).2 W):=by
 refine GK fun op nn u rn ri args ih=>?_
 intro b o pre W hi hR hX hbad
 rw[PV] at hR
 obtain ⟨a,cap,⟨c0,C0⟩,⟨c5,C5⟩,hl,hrow⟩:=hR
 have HC:=yb hc
 have HI:=yb hi
 have HX:=yb hX
 have HBad:=yb hbad
 have IH:=yb ih
 have HRow:=yb hrow
 have HC5:=yb C5
 have w0c:=(hc.hd _ _ _ hi.j _ C0).trans c0
 have w5c:=(hc.hd _ _ _ hi.j _ C5).trans c5
 have y0:=hi.y.2
 have H5:=yb c5
 have a0:(W.alloc (.cells #[.pointer (some ⟨b,o+3,none⟩),.int .i64 0,.int .i64 0] 106)).cell? ⟨b,o,none⟩=some (.int .i64 op):=((yg W.heap.size W).alloc (ye _) _).cell (p:=⟨b,o,none⟩) (zI W _ w0c) |>.trans w0c
 have HE:Hid (Cg w0 lt (.mk op nn u rn ri args) b o=if MJ op args.length then (⟨b,o+3,KL op lt,O9 op lt,rn,ri⟩::(Bw w0 lt args (some (.slice a args.length cap)) 0).1,(Bw w0 lt args (some (.slice a args.length cap)) 0).2) else ([],false)):=yb (by rw[Cg,c5])
 generalize hP:Cg w0 lt (.mk op nn u rn ri args) b o=P at*
 clear hP
 generalize hm:args.length=m at*
 have Hm:=yb hm
 clear hm hc hi hX hbad ih hrow C0 C5 c0 c5
 by_cases h1:1<=op
 rotate_left
 ·have HF:Hid (P=([],false)):=yb (by rw[HE.o];simp[MJ,h1])
  go_enter Try.func82,Try.ntmps82
  go_wp2_with (first|(go_at_call 50;refine (Cs _ _).mono ?_;rintro e w5 ⟨rfl,rfl⟩))
  exact ⟨rfl,.inr ⟨_,rfl,HBad.o (by rw[HF.o]) _ (by rw[HF.o];exact HI.o.j),Bv.refl _ _⟩⟩
 by_cases h6:op<=6
 rotate_left
 ·have HF:Hid (P=([],false)):=yb (by rw[HE.o];simp[MJ,h6])
  go_enter Try.func82,Try.ntmps82
  go_wp2_with (first|(go_at_call 50;refine (Cs _ _).mono ?_;rintro e w5 ⟨rfl,rfl⟩))
  exact ⟨rfl,.inr ⟨_,rfl,HBad.o (by rw[HF.o]) _ (by rw[HF.o];exact HI.o.j),Bv.refl _ _⟩⟩
 go_enter Try.func82,Try.ntmps82
 go_upto_if 30 with (first|(go_at_call 50;refine (CA _ _).mono ?_;rintro e w5 ⟨rfl,rfl⟩))
 go_cut [31] from 22 (fun _ w'=>Hid (Below w5.heap.size w5 w'∧w'.heap[w5.heap.size]?=some (.cells #[.pointer (some ⟨b,o+3,none⟩),.int .i64 (KL op lt),.int .i64 (O9 op lt)] 106 (0,0))))
 case first=>
  go_wp2
  all_goals
   go_meet
   case rel=>exact yb ⟨(yg _ _).alloc (ye _) _,by rw[World.alloc_heap_new];simp_all[KL,O9]<;>omega⟩
 clear a0
 have HBc:=yb hcut.o.1
 have HUc:=yb hcut.o.2
 have b0:=(HBc.o.cell (p:=⟨b,o,none⟩) (zI w5 _ w0c)).trans w0c
 have b5:=(HBc.o.cell (p:=⟨b,o+5,none⟩) (zI w5 _ w5c)).trans w5c
 have HIc:=yb (HI.o.below HC.o.stays HBc.o)
 clear hcut w0c w5c
 go_upto_if 42 with fail
 go_cut [31] from 22 (fun _ w'=>Hid (w'=wc∧MJ op m=true))
 case first=>
  by_cases h3:3<=op
  ·by_cases h2:m=2
   ·have hb2:((m:Int)==2)=true:=by simp;omega
    have HOk:Hid (MJ op m=true):=yb (by simp[MJ,h1,h6,h3,h2])
    clear h2
    go_wp2_with (first|(go_at_call 50;refine (CA _ _).mono ?_;rintro e w6 ⟨rfl,rfl⟩))
    go_meet
    case rel=>exact yb ⟨rfl,HOk.o⟩
   ·have hb2:((m:Int)==2)=false:=by simp;omega
    have HF:Hid (P=([],false)):=yb (by rw[HE.o];simp[MJ,h3,h2])
    clear h2
    go_wp2_with (first|(go_at_call 50;refine (Cs _ _).mono ?_;rintro e w6 ⟨rfl,rfl⟩))
    exact ⟨rfl,.inr ⟨_,rfl,HBad.o (by rw[HF.o]) _ (by rw[HF.o];exact HIc.o.j),HI.o.sameBelow HBc.o⟩⟩
  ·by_cases h2:m=0
   ·have hb2:((m:Int)==0)=true:=by simp;omega
    have HOk:Hid (MJ op m=true):=yb (by simp[MJ,h1,h6,h3,h2])
    clear h2
    go_wp2_with (first|(go_at_call 50;refine (CA _ _).mono ?_;rintro e w6 ⟨rfl,rfl⟩))
    go_meet
    case rel=>exact yb ⟨rfl,HOk.o⟩
   ·have hb2:((m:Int)==0)=false:=by simp;omega
    have HF:Hid (P=([],false)):=yb (by rw[HE.o];simp[MJ,h3,h2])
    clear h2
    go_wp2_with (first|(go_at_call 50;refine (Cs _ _).mono ?_;rintro e w6 ⟨rfl,rfl⟩))
    exact ⟨rfl,.inr ⟨_,rfl,HBad.o (by rw[HF.o]) _ (by rw[HF.o];exact HIc.o.j),HI.o.sameBelow HBc.o⟩⟩
 obtain ⟨rfl,hok⟩:=hcut.o
 have HP:Hid (P=(⟨b,o+3,KL op lt,O9 op lt,rn,ri⟩::(Bw w0 lt args (some (.slice a m cap)) 0).1,(Bw w0 lt args (some (.slice a m cap)) 0).2)):=yb (by rw[HE.o,hok];rfl)
 have hk:pre.length < X.length:=by
  obtain ⟨post,hx⟩:=HX.o
  rw[hx,HP.o];simp
 have hxk:X[pre.length].v=#[.agg #[.pointer (some ⟨b,o+3,none⟩),.int .i64 (KL op lt),.int .i64 (O9 op lt)]]:=by
  obtain ⟨post,hx⟩:=HX.o
  have:X[pre.length]?=some ⟨b,o+3,KL op lt,O9 op lt,rn,ri⟩:=by rw[hx,HP.o];simp
  rw[yk hk] at this
  rw[yh this];rfl
 obtain ⟨yfn,ytmps,yassign,ybody,hy,hyR⟩:=HC.o.round pre.length hk _ HIc.o
 rw[hxk] at hy
 have HyR:=yb hyR
 have q0:wc.cell? ⟨w5.heap.size,0,none⟩=some (.pointer (some ⟨b,o+3,none⟩)):=by simp[World.cell?,HUc.o]
 have q1:wc.cell? ⟨w5.heap.size,1,none⟩=some (.int .i64 (KL op lt)):=by simp[World.cell?,HUc.o]
 have q2:wc.cell? ⟨w5.heap.size,2,none⟩=some (.int .i64 (O9 op lt)):=by simp[World.cell?,HUc.o]
 have q3:=HIc.o.y.2
 clear hk hxk hyR hcut hok
 go_upto_region 10 with fail
 refine (wpIn_wide (n:=n)).1 ?_
 gi_wp2
 refine HyR.o.mono ?_
 rintro e W3 (⟨rfl,hj,hs⟩|⟨rfl,hx,hs⟩|⟨ch,rfl,hp,hs⟩)
 rotate_left
 ·have HX3:=yb hx
  have HS3:=yb ((HI.o.sameBelow HBc.o).trans hs)
  clear hx hs q0 q1 q2 q3 hy b0 b5
  gi_wp2
  go_wp2
  go_ret
  exact .inl ⟨false,rfl,HS3.o,.inr ⟨rfl,HX3.o⟩⟩
 ·exact ⟨rfl,.inr ⟨ch,rfl,hp,(HI.o.sameBelow HBc.o).trans hs⟩⟩
 have HI3:=yb (HIc.o.same hj hs)
 have HS3:=yb ((HI.o.sameBelow HBc.o).trans hs)
 have d5:=(HC.o.hd _ _ _ hj _ HC5.o).trans H5.o
 clear hj hs q0 q1 q2 q3 hy b0 b5
 gi_wp2
 go_wp2
 clear d5
 go_loopw [66] (fun iv wr=>∃i:Nat,iv=.int .i64 i∧i<=m∧Hid (IG J O B0 l By Bi (pre.length+1+(Bw w0 lt (args.take i) (some (.slice a m cap)) 0).1.length) wr)∧Hid (Bv O w5 wr)∧Hid ((Bw w0 lt (args.take i) (some (.slice a m cap)) 0).2=true)) (fun iv _=>m - (intOf iv).toNat)
 case atStart=>exact ⟨0,rfl,yz _,HI3,HS3,yb rfl⟩
 case round=>
  obtain ⟨i,rfl,hi,HIr,HSr,HOr⟩:=hrel
  by_cases hlt:i < m
  ·have hil:i < args.length:=by rw[Hm.o];exact hlt
   obtain ⟨b',o',rfl,hex⟩:=MW HRow.o i hil
   rw[yA] at hex
   have hn1:=PW hil HOr.o
   have HNx:=yb hn1
   have HXs:Hid (∃post,X=(pre++(⟨b,o+3,KL op lt,O9 op lt,rn,ri⟩::(Bw w0 lt (args.take i) (some (.slice (some ⟨b',o',none⟩) m cap)) 0).1))++((Cg w0 lt args[i] b' (o'+i*6)).1++post)):=yb (by
    obtain ⟨post,hx⟩:=HX.o
    obtain ⟨post2,hp2⟩:=MV (w:=w0) (lt:=lt) (b:=b') (o:=o') (n:=m) (c:=cap) (args.take (i+1)) (args.drop (i+1)) 0
    rw[xy,hn1] at hp2
    refine ⟨post2++post,?_⟩
    rw[hx,HP.o]
    simp only[hp2]
    simp)
   have HBs:Hid ((Cg w0 lt args[i] b' (o'+i*6)).2=false->∀W',J ((pre++(⟨b,o+3,KL op lt,O9 op lt,rn,ri⟩::(Bw w0 lt (args.take i) (some (.slice (some ⟨b',o',none⟩) m cap)) 0).1)).length+(Cg w0 lt args[i] b' (o'+i*6)).1.length) O W'->Jp (Ek 170) O W'):=yb (fun hf W' hj=>by
    have hst:=Le (w:=w0) (lt:=lt) (b:=b') (o:=o') (n:=m) (c:=cap) (args.take (i+1)) (args.drop (i+1)) 0 (by rw[hn1];exact hf)
    rw[xy,hn1] at hst
    refine HBad.o (by rw[HP.o];simp only[hst];exact hf) W' ?_
    rw[HP.o]
    simp only[hst]
    have e1:pre.length+(⟨b,o+3,KL op lt,O9 op lt,rn,ri⟩::((Bw w0 lt (args.take i) (some (.slice (some ⟨b',o',none⟩) m cap)) 0).1++(Cg w0 lt args[i] b' (o'+i*6)).1)).length=(pre++(⟨b,o+3,KL op lt,O9 op lt,rn,ri⟩::(Bw w0 lt (args.take i) (some (.slice (some ⟨b',o',none⟩) m cap)) 0).1)).length+(Cg w0 lt args[i] b' (o'+i*6)).1.length:=by simp;omega
    rw[e1];exact hj)
   have HCl:=yb (fun (W:World) (hW:IG J O B0 l By Bi (pre.length+1+(Bw w0 lt (args.take i) (some (.slice (some ⟨b',o',none⟩) m cap)) 0).1.length) W)=>IH.o args[i] (yy hil) b' (o'+i*6) (pre++(⟨b,o+3,KL op lt,O9 op lt,rn,ri⟩::(Bw w0 lt (args.take i) (some (.slice (some ⟨b',o',none⟩) m cap)) 0).1)) W (by
    have e1:(pre++(⟨b,o+3,KL op lt,O9 op lt,rn,ri⟩::(Bw w0 lt (args.take i) (some (.slice (some ⟨b',o',none⟩) m cap)) 0).1)).length=pre.length+1+(Bw w0 lt (args.take i) (some (.slice (some ⟨b',o',none⟩) m cap)) 0).1.length:=by simp;omega
    rw[e1];exact hW) hex HXs.o HBs.o)
   have HNl:Hid ((pre++(⟨b,o+3,KL op lt,O9 op lt,rn,ri⟩::(Bw w0 lt (args.take i) (some (.slice (some ⟨b',o',none⟩) m cap)) 0).1)).length+(Cg w0 lt args[i] b' (o'+i*6)).1.length=pre.length+1+(Bw w0 lt (args.take (i+1)) (some (.slice (some ⟨b',o',none⟩) m cap)) 0).1.length):=yb (by rw[hn1];simp;omega)
   have HNo:Hid ((Bw w0 lt (args.take (i+1)) (some (.slice (some ⟨b',o',none⟩) m cap)) 0).2=(Cg w0 lt args[i] b' (o'+i*6)).2):=yb (by rw[hn1])
   have HIr1:=yb (HIr.o.below HC.o.stays ((yg wr.heap.size wr).drew))
   have hki:(i:Int) < (m:Int):=by omega
   have e5:=(HC.o.hd _ _ _ HIr.o.j _ HC5.o).trans H5.o
   have eB:=HIr.o.i.2
   have HS1:Hid (wr.drew.cell? ⟨Bi,0,none⟩=some (.func (.func 82) #[] #[.pointer (some ⟨By,0,none⟩),.pointer (some ⟨Bi,0,none⟩)])∧wr.drew.cell? ⟨b,o+5,none⟩=some (.slice (some ⟨b',o',none⟩) m cap)):=yb ⟨HIr1.o.i.2,(HC.o.hd _ _ _ HIr1.o.j _ HC5.o).trans H5.o⟩
   have HSd:=yb (HSr.o.trans (HIr.o.sameBelow ((yg wr.heap.size wr).drew)))
   clear hn1 hex
   go_wp2_with fail
   go_region_held2 (fun w'=>w'.cell? ⟨Bi,0,none⟩=some (.func (.func 82) #[] #[.pointer (some ⟨By,0,none⟩),.pointer (some ⟨Bi,0,none⟩)])∧w'.cell? ⟨b,o+5,none⟩=some (.slice (some ⟨b',o',none⟩) m cap)) (first|exact HS1.o|exact HS2.o)
    (first|(go_at_call 82;refine (HCl.o _ HIr1.o).mono ?_;rintro e w2 (⟨r,rfl,hs2,hr⟩|⟨ch,rfl,hp,hs2⟩);rotate_left;exact ⟨rfl,.inr ⟨ch,rfl,hp,HSd.o.trans hs2⟩⟩;have HS2:=yb (And.intro (D4 hs2 HIr1.o.i.1 HIr1.o.i.2) (hr.elim (fun h=>(HC.o.hd _ _ _ h.2.2 _ HC5.o).trans H5.o) (fun h=>(HC.o.hdx _ _ h.2 _ HC5.o).trans H5.o)));have HR:=yb hr;have HSw:=yb hs2;clear hr hs2))
   rcases HR.o with ⟨rfl,hok2,hj2⟩|⟨rfl,hx2⟩
   ·have HJ2:=yb hj2
    have HO2:=yb hok2
    clear hok2 hj2 HR e5 eB
    go_wp2
    exact ⟨⟨i+1,by push_cast;rfl,by omega,yb (by rw[<-HNl.o];exact HIr1.o.same HJ2.o HSw.o),yb (HSd.o.trans HSw.o),yb (by rw[HNo.o];exact HO2.o)⟩,by simp[intOf];omega⟩
   ·have HX2:=yb hx2
    clear hx2 HR e5 eB
    go_wp2
    go_ret
    exact .inl ⟨false,rfl,HSd.o.trans HSw.o,.inr ⟨rfl,HX2.o⟩⟩
  ·obtain rfl:i=m:=by omega
   have HFin:Hid (P.2=true∧J (pre.length+P.1.length) O wr):=yb (by
    have h1:=HOr.o
    have h2:=HIr.o.j
    rw[<-Hm.o,yw] at h1 h2
    rw[HP.o]
    simp only[yE]
    rw[Hm.o] at h1 h2
    exact ⟨h1,by rw[show pre.length+((Bw w0 lt args (some (.slice a i cap)) 0).1.length+1)=pre.length+1+(Bw w0 lt args (some (.slice a i cap)) 0).1.length by omega];exact h2⟩)
   have hki:decide ((i:Int) < (i:Int))=false:=by simp
   go_wp2
   go_ret
   exact .inl ⟨true,rfl,HSr.o,.inl ⟨rfl,HFin.o.1,HFin.o.2⟩⟩
def FQ(op n u:Int)(rn:ByteArray)(ri:Int)(m:Nat):Bool:=decide (op=0)&&(decide (n=0)&&(decide (u=0)&&(decide (rn.size=0∧ri=0)&&decide (m=0))))
theorem F2(s:ByteArray):s.size=0↔s.toList=[]:=by
 rw[zF,<-z6,FG]
theorem J8(op b u:Int)(rn:ByteArray)(ri:Int)(a:Option Addr)(m cap:Nat)(w:World):
  Calls Try.prog 83 #[.agg #[.int .i64 op,.int .i64 b,.int .i64 u,.string rn,.int .i64 ri,.slice a m cap]] w fun e w'=>e=.returned (.bool (FQ op b u rn ri m))∧Below w.heap.size w w':=by
 by_cases h0:op=0
 ·by_cases h1:b=0
  ·by_cases h2:u=0
   ·subst h0 h1 h2
    go_enter Try.func83,Try.ntmps83
    go_wp2
    ·rename_i h1 h2
     go_ret
     refine ⟨Bn ?_,(yg _ _).alloc (ye _) _⟩
     simp only[FQ,decide_eq_true (show rn.size=0∧ri=0 from ⟨(F2 rn).2 h1,h2⟩)]
     rw[xJ];simp
    ·rename_i h1 h2
     go_ret
     refine ⟨Bn ?_,(yg _ _).alloc (ye _) _⟩
     simp only[FQ,xK (show ¬ (rn.size=0∧ri=0) from fun h=>h2 h.2)]
     simp
    ·rename_i h1
     go_ret
     refine ⟨Bn ?_,(yg _ _).alloc (ye _) _⟩
     simp only[FQ,xK (show ¬ (rn.size=0∧ri=0) from fun h=>h1 ((F2 rn).1 h.1))]
     simp
   ·have c:(u==0)=false:=by simpa using h2
    subst h0 h1
    go_enter Try.func83,Try.ntmps83
    go_wp2
    go_ret
    exact ⟨Bn (by simp[FQ,h2]),(yg _ _).alloc (ye _) _⟩
  ·have c:(b==0)=false:=by simpa using h1
   subst h0
   go_enter Try.func83,Try.ntmps83
   go_wp2
   go_ret
   exact ⟨Bn (by simp[FQ,h1]),(yg _ _).alloc (ye _) _⟩
 ·have c:(op==0)=false:=by simpa using h0
  go_enter Try.func83,Try.ntmps83
  go_wp2
  go_ret
  exact ⟨Bn (by simp[FQ,h0]),(yg _ _).alloc (ye _) _⟩
def BP(w:World)(X:Value)(n size:Nat)(cells:LV):Prop:=
 cells.length=n*size∧(∀u∈cells,u.oneCell'=true)∧∃a cap,X=.slice a n cap∧(n=0∨∃b o,a=some ⟨b,o,none⟩∧b < w.heap.size∧∀j u,cells[j]?=some u->w.cell? ⟨b,o+j,none⟩=some u)
theorem EF{t e:TypeId}{i:TypeInfo}{size:Nat}(f:Try.prog.underlying t=some (.slice e))(hi:Try.prog.info? e=some i)(w:World)(B:Nat)(ty:TypeId)(v:Value)(n:Nat)(xs:LV)(b:w.ownsRow B e size v n xs)(a:Option Addr)(c:Nat):
  (Builtin.append_ #[t,t] ty #[v,.slice a 0 c]).run Try.prog w=.ok v w:=by
 rcases b.2 with ⟨rfl,_⟩|⟨g,cap,h,rfl,_,_,d,j,_⟩
 ·cases a<;>simp[Builtin.append_,run_underlying f,sizeOf,typeInfo,hi,Builtin.lenOf,Builtin.firstCells,loadCells,loadCellsFrom]
 ·cases a<;>simp[Builtin.append_,run_underlying f,sizeOf,typeInfo,hi,Builtin.lenOf,Builtin.firstCells,storeCells,loadCells,loadCellsFrom,d]
theorem Gw{ops:Array Oper}{o:Oper}{a:Act}{K:Act->World->Prop}{Q:QT}{E:Prop}{W:World}{t e:TypeId}{r:TypeInfo}{z:Value}{size d:Nat}(R:Try.prog.underlying t=some (.slice e))(hi:Try.prog.info? e=some r)(D:r.zero=some z)(O:r.size=size)(N:r.bytes=d)(L:z.cells.size=size)(J:0 < size)(M:d<=64)
 (B:Nat)(I:o.guard=none)(s x:Operand)(T:o.op=.call {callee:=.builtin .append,args:=#[s,x],argTypes:=#[t,t]})(v:Value)(n:Nat)(xs:LV)(hs:a.eval s=v)(f:W.ownsRow B e size v n xs)
 (X:Value)(m:Nat)(y:LV)(P:a.eval x=X)(V:BP W X m size y)(p:n+m<=1000000)(l:B<=W.heap.size)
 (h:∀(A:Option Addr) (c:Nat) w',w'.ownsRow B e size (.slice A (n+m) c) (n+m) (xs++y)->W.grownBy w' v.ownBlock->K (a.put o.dst (.slice A (n+m) c)) w'):
  if Region.wanted o (yielded ops a.tmps)=true then Oper.wp Try.prog o a W K Q else E:=by
 have Z:Region.wanted o (yielded ops a.tmps)=true:=by simp[Region.wanted,I]
 rw[yx Z]
 obtain ⟨w,F,A,cap,rfl,k⟩:=V
 by_cases S:m=0
 ·subst S
  obtain rfl:y=[]:=z6.1 (by simpa using w)
  have q:=EF R hi W B o.type v n xs f A cap
  obtain ⟨va,C,rfl⟩:∃a c,v=.slice a n c:=by
   rcases f.2 with ⟨rfl,G⟩|⟨g,cap,H,rfl,_⟩
   ·exact ⟨none,0,by rw[G]⟩
   ·exact ⟨_,_,rfl⟩
  unfold Oper.wp
  simp[execOp,T,resolve,invoke,builtin,hs,P,q,Result.andThen]
  have U:=h va C W (by simpa using f) ⟨rfl,rfl,rfl,ye _,fun _ _ _=>rfl⟩
  rw[xR] at U
  exact U
 ·obtain ⟨b,off,rfl,hb,hc⟩:=k.resolve_left S
  refine qg W s x t T B e r z size d R hi D O N L J v n xs hs f (aV b off) m cap y P w (fun j u Y=>?_) F (by unfold maxLen;omega) (by
   have:(n+m)*d<=1000000*64:=Nat.mul_le_mul p M
   omega) l ?_
  ·rw[zy];exact hc j u Y
  ·intro v' w' i hg _
   obtain ⟨va,C,rfl⟩:∃a c,v'=.slice a (n+m) c:=by
    rcases i.2 with ⟨rfl,G⟩|⟨g,cap,H,rfl,_⟩
    ·exact ⟨none,0,by rw[G]⟩
    ·exact ⟨_,_,rfl⟩
   exact h va C w' i hg
def AO(u:Us):LV:=[.pointer (some ⟨u.b,u.o,none⟩),.int .i64 u.to,.int .i64 u.at_]
def CQ(B:Nat)(w:World)(v:Value)(us:List Us):Prop:=w.ownsRow B 106 3 v us.length (us.flatMap AO)
theorem PX(B:Nat)(w:World):CQ B w (.slice none 0 0) []:=⟨rfl,.inl ⟨rfl,rfl⟩⟩
theorem CN{ops:Array Oper}{o:Oper}{a:Act}{K:Act->World->Prop}{Q:QT}{E:Prop}{W:World}(B:Nat)(l:o.guard=none)(s x:Operand)(u:o.op=.call {callee:=.builtin .append,args:=#[s,x],argTypes:=#[151,151]})
 (v:Value)(us:List Us)(hs:a.eval s=v)(g:CQ B W v us)(X:Value)(b:List Us)(q:a.eval x=X)(p:BP W X b.length 3 (b.flatMap AO))(f:us.length+b.length<=1000000)(e:B<=W.heap.size)
 (h:∀(j:Option Addr) (c:Nat) w',CQ B w' (.slice j (us.length+b.length) c) (us++b)->W.grownBy w' v.ownBlock->K (a.put o.dst (.slice j (us.length+b.length) c)) w'):
  if Region.wanted o (yielded ops a.tmps)=true then Oper.wp Try.prog o a W K Q else E:=by
 have d:(Try.prog.info? 106).map (fun i=>(i.zero,i.size,i.bytes))=some (some (.agg #[.pointer none,iV 0,iV 0]),3,24):=by kernel_rfl
 obtain ⟨w,hi,k,n,m⟩:=info_parts d
 exact Gw Try.underlying151 hi k n m rfl (by decide) (by decide) B l s x u v us.length _ hs g X b.length _ q p f e (fun j c w' r t=>h j c w' (by
  unfold CQ
  rw[ym,zB]
  exact r) t)
theorem M8{o:Oper}{a:Act}{K:Act->World->Prop}{Q:QT}{W:World}(B:Nat)(e:o.guard=none)(s x:Operand)(l:o.op=.call {callee:=.builtin .append,args:=#[s,x],argTypes:=#[151,151]})
 (v:Value)(us:List Us)(hs:a.eval s=v)(g:CQ B W v us)(X:Value)(b:List Us)(k:a.eval x=X)(j:BP W X b.length 3 (b.flatMap AO))(f:us.length+b.length<=1000000)(d:B<=W.heap.size)
 (h:∀(i:Option Addr) (c:Nat) w',CQ B w' (.slice i (us.length+b.length) c) (us++b)->W.grownBy w' v.ownBlock->K (a.put o.dst (.slice i (us.length+b.length) c)) w'):Oper.wp Try.prog o a W K Q:=by
 have m:=CN (ops:=#[]) (E:=True) (Q:=Q) B e s x l v us hs g X b k j f d h
 rwa [yx (by simp[Region.wanted,e])] at m
theorem Ib:∀us:List Us,(us.flatMap AO).length=us.length*3
 |[]=>rfl
 |x::r=>by rw[zp,ym,Ib r,yE];simp only[AO,yE,yI];omega
theorem Gi{w':World}{us:List Us}{b:Nat}(hb:w'.heap[b]?=some (.cells (us.flatMap AO).toArray 106 (0,0)))(c:Nat):BP w' (.slice (some ⟨b,0,none⟩) us.length c) us.length 3 (us.flatMap AO):=by
 refine ⟨?_,?_,some (aV b 0),c,rfl,.inr ⟨b,0,rfl,(yf.1 hb).1,fun j u d=>?_⟩⟩
 ·exact Ib us
 ·intro u e
  obtain ⟨x,_,a⟩:=yN.1 e
  simp[AO] at a
  rcases a with rfl|rfl|rfl<;>rfl
 ·simp only[World.cell?,hb]
  simpa using d

theorem JS(n:Nat)(j:1<=n)(Bs:Nat)(L:Bh)(g:L.Ok):Td Fence.wide n Try.prog 89 #[.pointer (some ⟨Bs,0,none⟩)] (I9 L Bs) (BO L) none:=by
 intro l J Jx Jp W r d _ c b _ a h0
 refine (z8.2 (Ol n j l Bs L g J Jx Jp W ⟨r,d,c,b,fun k i O o p q m=>a k i O o p q m⟩ h0)).mono ?_
 rintro e W' (⟨f,h|h⟩|h)
 ·exact .inl ⟨f,.inl ⟨rfl,h⟩⟩
 ·exact .inl ⟨f,.inr h⟩
 ·exact .inr h
theorem EG(s:Nat)(w:World):Calls Try.prog 67 #[.pointer (some ⟨s,0,none⟩)] w fun x w'=>x=.returned (.func (.func 89) #[] #[.pointer (some ⟨w.heap.size,0,none⟩)])∧w'=w.alloc (.cells #[.pointer (some ⟨s,0,none⟩)] 52):=by
 have a:∀(fn:Fn) (first cap:Array Value) (w:World),(Instr.makeFunc fn first cap).run Try.prog w=.ok (.func fn first cap) w:=fun _ _ _ _=>rfl
 go_enter Try.func67,Try.ntmps67
 go_wp2
 go_ret
 exact ⟨rfl,rfl⟩
def Ty(w:World)(b t:Nat):Prop:=∃c,w.heap[b]?=some (.cells c t (0,0))
theorem Ty.inj{w:World}{b t t':Nat}(h:Ty w b t)(a:Ty w b t'):t=t':=by
 obtain ⟨c,e⟩:=h
 obtain ⟨d,e'⟩:=a
 rw[e] at e'
 cases e';rfl
theorem Ty.lt{w:World}{b t:Nat}(h:Ty w b t):b < w.heap.size:=by
 obtain ⟨c,e⟩:=h
 exact (yf.1 e).1
def Fp(t o:Nat):Nat:=
 if t=35 then (if o=0 then 0 else if o < 19 then 1 else 0)
 else if t=55 then (if o % 7=0 then 0 else 1)
 else if t=57 then (if o % 7=0 then 0 else 1)
 else if t=51 then (if o % 51 < 2 then 0 else if o % 51=2 then 2 else 1)
 else if t=59 then (if o % 12=2 then 2 else if o % 12=11 then 2 else if o % 12 < 4 then 0 else if o % 12=10 then 0 else 1)
 else if t=64 then (if o % 23=2 then 2 else if o % 23 < 4 then 0 else if o % 23=22 then 0 else 1)
 else if t=66 then (if o % 8=0 then 0 else if o % 8=1 then 2 else 1)
 else if t=68 then (if o % 37=3 then 2 else if o % 37=5 then 2 else if o % 37 < 7 then 0 else 1)
 else if t=70 then (if o % 11=2 then 2 else if o % 11=4 then 2 else if o % 11 < 5 then 0 else 1)
 else 1
def FR(t o:Nat):Nat:=
 if t=35 then (o+5) % 6
 else if t=55 then (o % 7+5) % 6
 else if t=57 then (o % 7+5) % 6
 else if t=51 then (o % 51+3) % 6
 else if t=59 then (o % 12+2) % 6
 else if t=64 then (o % 23+2) % 6
 else if t=66 then (o % 8+4) % 6
 else if t=68 then (o % 37+5) % 6
 else if t=70 then (o % 11+1) % 6
 else o % 6
def Gj(w:World)(b o:Nat):Prop:=∃t,Ty w b t∧∀j,j < 6->Fp t (o+j)=1∧FR t (o+j)=j
theorem Gj.uniq{w:World}{b o d j j':Nat}(h:Gj w b o)(g:Gj w b d)(f:j < 6)(a:j' < 6)(i:o+j=d+j'):j=j'∧o=d:=by
 obtain ⟨t,h1,h2⟩:=h
 obtain ⟨t',e,c⟩:=g
 obtain rfl:=h1.inj e
 have e1:=(h2 j f).2
 have e2:=(c j' a).2
 rw[i,e2] at e1
 omega
def Om(w:World)(b o:Nat):Prop:=∃t,Ty w b t∧Fp t o=0∧Fp t (o+1)=2
def MY(w:World)(b o:Nat):Prop:=∃t,Ty w b t∧Fp t o=0
def E3{α:Type}(N:NP)(w:World)(t sz:Nat)(P:Nat->Nat->Nat->α->Prop)(h:Av)(l:List α):Prop:=
 h.n=l.length∧l.length<=140737488355328∧∀i (hi:i < l.length),∃g,h.a=some ⟨g,0,none⟩∧N g∧Ty w g t∧P i g (i*sz) l[i]
theorem E3.ok{α:Type}{N:NP}{w:World}{t sz:Nat}{P:Nat->Nat->Nat->α->Prop}{h:Av}{l:List α}(a:E3 N w t sz P h l):h.ok:=by
 obtain ⟨h1,h2,h3⟩:=a
 refine ⟨by omega,fun b=>?_⟩
 obtain ⟨g,g1,_⟩:=h3 0 (by omega)
 exact ⟨g,0,g1⟩
theorem E3.map{α:Type}{N:NP}{w w':World}{t sz:Nat}{P e:Nat->Nat->Nat->α->Prop}{h:Av}{l:List α}{f:Nat->α->α}(j:E3 N w t sz P h l)(n:∀b,N b->Ty w b t->Ty w' b t)(m:∀i g d,N g->Ty w g t->P i g (i*sz) d->e i g (i*sz) (f i d)):E3 N w' t sz e h (l.mapIdx f):=by
 obtain ⟨h1,h2,h3⟩:=j
 refine ⟨by rw[List.length_mapIdx];exact h1,by rw[List.length_mapIdx];exact h2,fun i hi=>?_⟩
 rw[List.length_mapIdx] at hi
 obtain ⟨g,g1,a,c,k⟩:=h3 i hi
 refine ⟨g,g1,a,n g a c,?_⟩
 rw[zZ]
 exact m i g _ a c k
section
variable(N:NP)(E:Int->Ex->Nat->Nat->Prop)(R:Int->Rf->Nat->Nat->Prop)(w:World)
def JT(s:ByteArray)(g o:Nat):Prop:=s.size<=maxLen∧w.cell? ⟨g,o,none⟩=some (.string s)
def TI(i g o:Nat)(d:Dx):Prop:=JT w d.name g o∧E (1+(i:Int)) d.value g (o+1)
def T1(_ g o:Nat)(d:BY):Prop:=JT w d.name g o∧E 0 d.need g (o+1)
def QU(i g o:Nat)(d:Ax):Prop:=JT w d.name g o∧R (if i=0 then 0 else 6) d.frm g (o+1)∧E 0 d.delay g (o+3)∧E 0 d.cap g (o+9)∧E 0 d.bank g (o+15)∧E 0 d.siphon g (o+21)∧E 0 d.evap0 g (o+27)∧E 0 d.evap1 g (o+33)∧E 0 d.seep0 g (o+39)∧E 0 d.seep1 g (o+45)
def T2(_ g o:Nat)(d:BL):Prop:=JT w d.name g o∧R 4 d.on g (o+1)∧w.cell? ⟨g,o+3,none⟩=some (.bool d.river)∧E 0 d.area g (o+4)∧R (if d.river then 0 else 3) d.crop g (o+10)
def T3(_ g o:Nat)(d:Bt):Prop:=R 5 d.farm g o∧E 0 d.len g (o+2)
def Tf(h:Nat->Av)(i g o:Nat)(d:B7):Prop:=JT w d.name g o∧R 4 d.on g (o+1)∧w.cell? ⟨g,o+3,none⟩=some (.int .i64 d.rank)∧E 0 d.flow g (o+4)∧E 0 d.frm g (o+10)∧E 0 d.to g (o+16)∧w.cell? ⟨g,o+22,none⟩=some (h i).v∧E3 N w 66 8 (T3 E R) (h i) d.turns
def QV(_ g o:Nat)(d:AG):Prop:=w.cell? ⟨g,o,none⟩=some (.int .i64 d.kind)∧JT w d.name g (o+1)∧R 5 d.farm g (o+2)∧R (if d.kind=1 then 0 else 4) d.reach g (o+4)∧w.cell? ⟨g,o+6,none⟩=some (.int .i64 d.rank)∧E 0 d.flow g (o+7)∧E 0 d.frm g (o+13)∧E 0 d.to g (o+19)∧E 0 d.every g (o+25)∧E 0 d.len g (o+31)
def T4(_ g o:Nat)(d:Ce):Prop:=JT w d.name g o∧R 5 d.farm g (o+1)∧R 4 d.reach g (o+3)∧E 0 d.due g (o+5)
structure Ch (L:Bh) (x:An):Prop where
 ty:Ty w L.s 35
 name:JT w x.name L.s 0
 season:E 0 x.season L.s 1
 cap:E 0 x.cap L.s 7
 start:E 0 x.start L.s 13
 hlets:w.cell? ⟨L.s,19,none⟩=some L.lets.v
 hcrops:w.cell? ⟨L.s,20,none⟩=some L.crops.v
 hreaches:w.cell? ⟨L.s,21,none⟩=some L.reaches.v
 hfarms:w.cell? ⟨L.s,22,none⟩=some L.farms.v
 hrots:w.cell? ⟨L.s,23,none⟩=some L.rots.v
 hrights:w.cell? ⟨L.s,24,none⟩=some L.rights.v
 hduties:w.cell? ⟨L.s,25,none⟩=some L.duties.v
 lets:E3 N w 55 7 (TI E w) L.lets x.lets
 crops:E3 N w 57 7 (T1 E w) L.crops x.crops
 reaches:E3 N w 51 51 (QU E R w) L.reaches x.reaches
 farms:E3 N w 59 12 (T2 E R w) L.farms x.farms
 rots:E3 N w 64 23 (Tf N E R w (A4 L)) L.rots x.rots
 rights:E3 N w 68 37 (QV E R w) L.rights x.rights
 duties:E3 N w 70 11 (T4 E R w) L.duties x.duties
end
section
variable(f:Int->Ex->Ex)(g:Int->Rf->Rf)
def Dx.mp(i:Nat)(d:Dx):Dx:={d with value:=f (1+(i:Int)) d.value}
def BY.mp(_:Nat)(d:BY):BY:={d with need:=f 0 d.need}
def Ax.mp(i:Nat)(d:Ax):Ax:={d with frm:=g (if i=0 then 0 else 6) d.frm,delay:=f 0 d.delay,cap:=f 0 d.cap,bank:=f 0 d.bank,siphon:=f 0 d.siphon,evap0:=f 0 d.evap0,evap1:=f 0 d.evap1,seep0:=f 0 d.seep0,seep1:=f 0 d.seep1}
def BL.mp(_:Nat)(d:BL):BL:={d with on:=g 4 d.on,area:=f 0 d.area,crop:=g (if d.river then 0 else 3) d.crop}
def Bt.mp(_:Nat)(d:Bt):Bt:={farm:=g 5 d.farm,len:=f 0 d.len}
def B7.mp(_:Nat)(d:B7):B7:={d with on:=g 4 d.on,flow:=f 0 d.flow,frm:=f 0 d.frm,to:=f 0 d.to,turns:=d.turns.mapIdx (Bt.mp f g)}
def AG.mp(_:Nat)(d:AG):AG:={d with farm:=g 5 d.farm,reach:=g (if d.kind=1 then 0 else 4) d.reach,flow:=f 0 d.flow,frm:=f 0 d.frm,to:=f 0 d.to,every:=f 0 d.every,len:=f 0 d.len}
def Ce.mp(_:Nat)(d:Ce):Ce:={d with farm:=g 5 d.farm,reach:=g 4 d.reach,due:=f 0 d.due}
def An.mp(x:An):An:=
 {x with season:=f 0 x.season,cap:=f 0 x.cap,start:=f 0 x.start,lets:=x.lets.mapIdx (Dx.mp f),crops:=x.crops.mapIdx (BY.mp f),reaches:=x.reaches.mapIdx (Ax.mp f g),farms:=x.farms.mapIdx (BL.mp f g),rots:=x.rots.mapIdx (B7.mp f g),rights:=x.rights.mapIdx (AG.mp f g),duties:=x.duties.mapIdx (Ce.mp f g)}
end
def On(t sz:Nat):Prop:=(t=55∧sz=7)∨(t=57∧sz=7)∨(t=51∧sz=51)∨(t=59∧sz=12)∨(t=64∧sz=23)∨(t=66∧sz=8)∨(t=68∧sz=37)∨(t=70∧sz=11)
theorem D7{t sz:Nat}(h:On t sz)(i c:Nat):Fp t (i*sz+c)=Fp t c∧FR t (i*sz+c)=FR t c:=by
 rcases h with ⟨rfl,rfl⟩|⟨rfl,rfl⟩|⟨rfl,rfl⟩|⟨rfl,rfl⟩|⟨rfl,rfl⟩|⟨rfl,rfl⟩|⟨rfl,rfl⟩|⟨rfl,rfl⟩
 ·have e:(i*7+c) % 7=c % 7:=by omega
  simp[Fp,FR,e]
 ·have e:(i*7+c) % 7=c % 7:=by omega
  simp[Fp,FR,e]
 ·have e:(i*51+c) % 51=c % 51:=by omega
  simp[Fp,FR,e]
 ·have e:(i*12+c) % 12=c % 12:=by omega
  simp[Fp,FR,e]
 ·have e:(i*23+c) % 23=c % 23:=by omega
  simp[Fp,FR,e]
 ·have e:(i*8+c) % 8=c % 8:=by omega
  simp[Fp,FR,e]
 ·have e:(i*37+c) % 37=c % 37:=by omega
  simp[Fp,FR,e]
 ·have e:(i*11+c) % 11=c % 11:=by omega
  simp[Fp,FR,e]
theorem Bg{w:World}{g t sz:Nat}(h:Ty w g t)(a:On t sz)(i c:Nat)(h1:∀j,j < 6->Fp t (c+j)=1∧FR t (c+j)=j):Gj w g (i*sz+c):=
 ⟨t,h,fun j b=>by rw[zN,(D7 a i (c+j)).1,(D7 a i (c+j)).2];exact h1 j b⟩
theorem Dr{w:World}{g t sz:Nat}(h:Ty w g t)(a:On t sz)(i c:Nat)(h1:Fp t c=0):MY w g (i*sz+c):=⟨t,h,by rw[(D7 a i c).1];exact h1⟩
theorem E7{w:World}{g t sz:Nat}(h:Ty w g t)(a:On t sz)(i:Nat)(h1:Fp t 0=0):MY w g (i*sz):=Dr h a i 0 h1
theorem BQ{w:World}{g t sz:Nat}(h:Ty w g t)(a:On t sz)(i c:Nat)(h1:Fp t c=0)(h2:Fp t (c+1)=2):Om w g (i*sz+c):=
 ⟨t,h,by rw[(D7 a i c).1];exact h1,by rw[zN,(D7 a i (c+1)).1];exact h2⟩
theorem Lf{w:World}{g t sz:Nat}(h:Ty w g t)(a:On t sz)(i:Nat)(h1:Fp t 0=0)(h2:Fp t 1=2):Om w g (i*sz):=BQ h a i 0 h1 h2
theorem QW:On 55 7:=.inl ⟨rfl,rfl⟩
theorem Oo:On 57 7:=.inr (.inl ⟨rfl,rfl⟩)
theorem BZ:On 51 51:=.inr (.inr (.inl ⟨rfl,rfl⟩))
theorem F3:On 59 12:=.inr (.inr (.inr (.inl ⟨rfl,rfl⟩)))
theorem Fq:On 64 23:=.inr (.inr (.inr (.inr (.inl ⟨rfl,rfl⟩))))
theorem JU:On 66 8:=.inr (.inr (.inr (.inr (.inr (.inl ⟨rfl,rfl⟩)))))
theorem C8:On 68 37:=.inr (.inr (.inr (.inr (.inr (.inr (.inl ⟨rfl,rfl⟩))))))
theorem Gk:On 70 11:=.inr (.inr (.inr (.inr (.inr (.inr (.inr ⟨rfl,rfl⟩))))))
section
variable{N:NP}{E E':Int->Ex->Nat->Nat->Prop}{R R':Int->Rf->Nat->Nat->Prop}{w w':World}{f:Int->Ex->Ex}{g:Int->Rf->Rf}
theorem JT.same{s:ByteArray}{b o:Nat}(h:JT w s b o)(a:w'.cell? ⟨b,o,none⟩=w.cell? ⟨b,o,none⟩):JT w' s b o:=⟨h.1,a.trans h.2⟩
theorem Ch.map{L:Bh}{x:An}(h:Ch N E R w L x)(l:∀b t,(N b∨b=L.s)->Ty w b t->Ty w' b t)(c:∀b o,(N b∨b=L.s)->MY w b o->w'.cell? ⟨b,o,none⟩=w.cell? ⟨b,o,none⟩)
 (a:∀lt e b o,(N b∨b=L.s)->Gj w b o->E lt e b o->E' lt (f lt e) b o)(k:∀to r b o,(N b∨b=L.s)->Om w b o->R to r b o->R' to (g to r) b o):Ch N E' R' w' L (x.mp f g):=by
 have m:∀o,Fp 35 o=0->w'.cell? (aV L.s o)=w.cell? (aV L.s o):=fun o z=>c _ _ (.inr rfl) ⟨_,h.ty,z⟩
 have u:∀lt e o,(∀j,j < 6->Fp 35 (o+j)=1∧FR 35 (o+j)=j)->E lt e L.s o->E' lt (f lt e) L.s o:=fun lt e o z=>a lt e _ _ (.inr rfl) ⟨_,h.ty,z⟩
 refine ⟨l _ _ (.inr rfl) h.ty,h.name.same (m 0 rfl),u _ _ _ (by decide) h.season,u _ _ _ (by decide) h.cap,u _ _ _ (by decide) h.start,(m _ rfl).trans h.hlets,(m _ rfl).trans h.hcrops,(m _ rfl).trans h.hreaches,(m _ rfl).trans h.hfarms,(m _ rfl).trans h.hrots,(m _ rfl).trans h.hrights,(m _ rfl).trans h.hduties,?_,?_,?_,?_,?_,?_,?_⟩
 ·refine h.lets.map (fun b hb=>l b _ (.inl hb)) fun i b d hb ty ⟨h1,h2⟩=>?_
  exact ⟨h1.same (c _ _ (.inl hb) (E7 ty QW i rfl)),a _ _ _ _ (.inl hb) (Bg ty QW i 1 (by decide)) h2⟩
 ·refine h.crops.map (fun b hb=>l b _ (.inl hb)) fun i b d hb ty ⟨h1,h2⟩=>?_
  exact ⟨h1.same (c _ _ (.inl hb) (E7 ty Oo i rfl)),a _ _ _ _ (.inl hb) (Bg ty Oo i 1 (by decide)) h2⟩
 ·refine h.reaches.map (fun b hb=>l b _ (.inl hb)) fun i b d hb ty ⟨h1,h2,q,n,p,y,v,A,C,B⟩=>?_
  exact ⟨h1.same (c _ _ (.inl hb) (E7 ty BZ i rfl)),k _ _ _ _ (.inl hb) (BQ ty BZ i 1 rfl rfl) h2,
   a _ _ _ _ (.inl hb) (Bg ty BZ i 3 (by decide)) q,a _ _ _ _ (.inl hb) (Bg ty BZ i 9 (by decide)) n,a _ _ _ _ (.inl hb) (Bg ty BZ i 15 (by decide)) p,a _ _ _ _ (.inl hb) (Bg ty BZ i 21 (by decide)) y,
   a _ _ _ _ (.inl hb) (Bg ty BZ i 27 (by decide)) v,a _ _ _ _ (.inl hb) (Bg ty BZ i 33 (by decide)) A,a _ _ _ _ (.inl hb) (Bg ty BZ i 39 (by decide)) C,a _ _ _ _ (.inl hb) (Bg ty BZ i 45 (by decide)) B⟩
 ·refine h.farms.map (fun b hb=>l b _ (.inl hb)) fun i b d hb ty ⟨h1,h2,h3,h4,h5⟩=>?_
  exact ⟨h1.same (c _ _ (.inl hb) (E7 ty F3 i rfl)),k _ _ _ _ (.inl hb) (BQ ty F3 i 1 rfl rfl) h2,(c _ _ (.inl hb) (Dr ty F3 i 3 rfl)).trans h3,
   a _ _ _ _ (.inl hb) (Bg ty F3 i 4 (by decide)) h4,k _ _ _ _ (.inl hb) (BQ ty F3 i 10 rfl rfl) h5⟩
 ·refine h.rots.map (fun b hb=>l b _ (.inl hb)) fun i b d hb ty ⟨h1,h2,h3,q,n,p,h4,h5⟩=>?_
  refine ⟨h1.same (c _ _ (.inl hb) (E7 ty Fq i rfl)),k _ _ _ _ (.inl hb) (BQ ty Fq i 1 rfl rfl) h2,(c _ _ (.inl hb) (Dr ty Fq i 3 rfl)).trans h3,
   a _ _ _ _ (.inl hb) (Bg ty Fq i 4 (by decide)) q,a _ _ _ _ (.inl hb) (Bg ty Fq i 10 (by decide)) n,a _ _ _ _ (.inl hb) (Bg ty Fq i 16 (by decide)) p,(c _ _ (.inl hb) (Dr ty Fq i 22 rfl)).trans h4,?_⟩
  refine h5.map (fun b hb=>l b _ (.inl hb)) fun i b d hb ty ⟨h1,h2⟩=>?_
  exact ⟨k _ _ _ _ (.inl hb) (Lf ty JU i rfl rfl) h1,a _ _ _ _ (.inl hb) (Bg ty JU i 2 (by decide)) h2⟩
 ·refine h.rights.map (fun b hb=>l b _ (.inl hb)) fun i b d hb ty ⟨h0,h1,h2,h3,h4,q,n,p,y,v⟩=>?_
  exact ⟨(c _ _ (.inl hb) (E7 ty C8 i rfl)).trans h0,h1.same (c _ _ (.inl hb) (Dr ty C8 i 1 rfl)),k _ _ _ _ (.inl hb) (BQ ty C8 i 2 rfl rfl) h2,k _ _ _ _ (.inl hb) (BQ ty C8 i 4 rfl rfl) h3,
   (c _ _ (.inl hb) (Dr ty C8 i 6 rfl)).trans h4,a _ _ _ _ (.inl hb) (Bg ty C8 i 7 (by decide)) q,a _ _ _ _ (.inl hb) (Bg ty C8 i 13 (by decide)) n,a _ _ _ _ (.inl hb) (Bg ty C8 i 19 (by decide)) p,a _ _ _ _ (.inl hb) (Bg ty C8 i 25 (by decide)) y,a _ _ _ _ (.inl hb) (Bg ty C8 i 31 (by decide)) v⟩
 ·refine h.duties.map (fun b hb=>l b _ (.inl hb)) fun i b d hb ty ⟨h1,h2,h3,h4⟩=>?_
  exact ⟨h1.same (c _ _ (.inl hb) (E7 ty Gk i rfl)),k _ _ _ _ (.inl hb) (BQ ty Gk i 1 rfl rfl) h2,k _ _ _ _ (.inl hb) (BQ ty Gk i 3 rfl rfl) h3,a _ _ _ _ (.inl hb) (Bg ty Gk i 5 (by decide)) h4⟩
end
def TG(N:NP)(E:Int->Ex->Nat->Nat->Prop)(w:World)(a:Array Value)(e:KK):Prop:=∃b o,a=#[.pointer (some ⟨b,o,none⟩),.int .i64 e.2]∧N b∧Gj w b o∧E e.2 e.1 b o
section
variable{N:NP}{E:Int->Ex->Nat->Nat->Prop}{R:Int->Rf->Nat->Nat->Prop}{w:World}
theorem CJ{h:Av}{g sz i off t:Nat}{e:Ex}{lt:Int}(b:h.a=some ⟨g,0,none⟩)(hN:N g)(ty:Ty w g t)(d:On t sz)(h1:∀j,j < 6->Fp t (off+j)=1∧FR t (off+j)=j)(c:E lt e g (i*sz+off)):TG N E w #[h.ptr sz i off,.int .i64 lt] (e,lt):=
 ⟨g,i*sz+off,by unfold Av.ptr;rw[AU b,yA],hN,Bg ty d i off h1,c⟩
theorem Ch.all2{L:Bh}{x:An}(h:Ch N E R w L x)(hs:N L.s):At (TG N E w) (BO L) (AL x):=by
 refine At.append ?_ (At.append ?_ (At.append ?_ (At.append ?_ (At.append ?_ (At.append ?_ (At.append ?_ ?_))))))
 ·exact ⟨⟨L.s,1,rfl,hs,⟨_,h.ty,by decide⟩,h.season⟩,⟨L.s,7,rfl,hs,⟨_,h.ty,by decide⟩,h.cap⟩,⟨L.s,13,rfl,hs,⟨_,h.ty,by decide⟩,h.start⟩,trivial⟩
 ·obtain ⟨h1,h2,h3⟩:=h.lets
  refine B9 _ (fun i (d:Dx)=> [(d.value,1+(i:Int))]) x.lets _ h1 fun i hi=>?_
  obtain ⟨g,g1,a,ty,m,f⟩:=h3 i hi
  exact ⟨CJ g1 a ty QW (by decide) f,trivial⟩
 ·obtain ⟨h1,h2,h3⟩:=h.crops
  refine B9 _ (fun i (d:BY)=> [(d.need,0)]) x.crops _ h1 fun i hi=>?_
  obtain ⟨g,g1,a,ty,m,f⟩:=h3 i hi
  exact ⟨CJ g1 a ty Oo (by decide) f,trivial⟩
 ·obtain ⟨h1,h2,h3⟩:=h.reaches
  refine B9 _ (fun i (d:Ax)=> [(d.delay,0),(d.cap,0),(d.bank,0),(d.siphon,0),(d.evap0,0),(d.evap1,0),(d.seep0,0),(d.seep1,0)]) x.reaches _ h1 fun i hi=>?_
  obtain ⟨g,g1,a,ty,m,f,b,c,e,l,j,n,r,p⟩:=h3 i hi
  exact ⟨CJ g1 a ty BZ (by decide) b,CJ g1 a ty BZ (by decide) c,CJ g1 a ty BZ (by decide) e,CJ g1 a ty BZ (by decide) l,CJ g1 a ty BZ (by decide) j,CJ g1 a ty BZ (by decide) n,CJ g1 a ty BZ (by decide) r,CJ g1 a ty BZ (by decide) p,trivial⟩
 ·obtain ⟨h1,h2,h3⟩:=h.farms
  refine B9 _ (fun i (d:BL)=> [(d.area,0)]) x.farms _ h1 fun i hi=>?_
  obtain ⟨g,g1,a,ty,_,_,_,b,_⟩:=h3 i hi
  exact ⟨CJ g1 a ty F3 (by decide) b,trivial⟩
 ·obtain ⟨h1,h2,h3⟩:=h.rots
  refine B9 _ (fun i (d:B7)=> [(d.flow,0),(d.frm,0),(d.to,0)]++DL d.turns) x.rots _ h1 fun i hi=>?_
  obtain ⟨g,g1,a,ty,_,_,_,b,c,e,_,hl,hc,q⟩:=h3 i hi
  refine At.append ⟨CJ g1 a ty Fq (by decide) b,CJ g1 a ty Fq (by decide) c,CJ g1 a ty Fq (by decide) e,trivial⟩ ?_
  refine B9 _ (fun k (d:Bt)=> [(d.len,0)]) (x.rots[i]).turns _ hl fun k o=>?_
  obtain ⟨g,g1,a,ty,_,b⟩:=q k o
  exact ⟨CJ g1 a ty JU (by decide) b,trivial⟩
 ·obtain ⟨h1,h2,h3⟩:=h.rights
  refine B9 _ (fun i (d:AG)=> [(d.flow,0),(d.frm,0),(d.to,0),(d.every,0),(d.len,0)]) x.rights _ h1 fun i hi=>?_
  obtain ⟨g,g1,a,ty,_,_,_,_,_,b,c,e,l,j⟩:=h3 i hi
  exact ⟨CJ g1 a ty C8 (by decide) b,CJ g1 a ty C8 (by decide) c,CJ g1 a ty C8 (by decide) e,CJ g1 a ty C8 (by decide) l,CJ g1 a ty C8 (by decide) j,trivial⟩
 ·obtain ⟨h1,h2,h3⟩:=h.duties
  refine B9 _ (fun i (d:Ce)=> [(d.due,0)]) x.duties _ h1 fun i hi=>?_
  obtain ⟨g,g1,a,ty,_,_,_,b⟩:=h3 i hi
  exact ⟨CJ g1 a ty Gk (by decide) b,trivial⟩
end
def EV(N:NP)(w:World)(_:Int)(e:Ex)(b o:Nat):Prop:=∃c,w.rangeAt b o c∧AP N w e c
def RV(w:World)(_:Int)(r:Rf)(b o:Nat):Prop:=r.name.size<=maxLen∧w.cell? ⟨b,o,none⟩=some (.string r.name)∧w.cell? ⟨b,o+1,none⟩=some (.int .i64 r.n)
theorem A5{w:World}{b o:Nat}{v:Value}{l:LV}(h:w.cell? ⟨b,o,none⟩=some v)(hl:w.rangeAt b (o+1) l):w.rangeAt b o (v::l):=fun j u a=>by
 cases j with
 |zero=>simp at a;subst a;exact h
 |succ j=>have:=hl j u (by simpa using a);rw[show o+(j+1)=o+1+j by omega];exact this
theorem Ic{w:World}{b o:Nat}{l m:LV}(h:w.rangeAt b o l)(d:w.rangeAt b (o+l.length) m):w.rangeAt b o (l++m):=fun j u a=>by
 rcases zO j l.length with c|c
 ·rw[zx c] at a;exact h j u a
 ·rw[yS c] at a
  have:=d (j - l.length) u a
  rw[show o+l.length+(j - l.length)=o+j by omega] at this;exact this
theorem PY(w:World)(b o:Nat):w.rangeAt b o []:=fun j u a=>by simp at a
theorem C9{w:World}{b o:Nat}{v:Value}(h:w.cell? ⟨b,o,none⟩=some v):w.rangeAt b o [v]:=A5 h (PY _ _ _)
theorem Lg{w:World}{to:Int}{r:Rf}{b o:Nat}(h:RV w to r b o):w.rangeAt b o (Ah r):=A5 h.2.1 (C9 h.2.2)
theorem Bl{w:World}{b o:Nat}{c l:LV}(hc:c.length=6)(h:w.rangeAt b o c)(hl:w.rangeAt b (o+6) l):w.rangeAt b o (c++l):=Ic h (by rw[hc];exact hl)
theorem Ep{w:World}{to:Int}{r:Rf}{b o:Nat}{l:LV}(h:RV w to r b o)(hl:w.rangeAt b (o+2) l):w.rangeAt b o (Ah r++l):=Ic (Lg h) hl
theorem E3.isRow{α:Type}{N:NP}{w:World}{t sz:Nat}{P:Nat->Nat->Nat->α->Prop}{h:Av}{l:List α}{Q:LV->α->Prop}(b:E3 N w t sz P h l)(j:∀i g d,P i g (i*sz) d->∃cs,cs.length=sz∧w.rangeAt g (i*sz) cs∧Q cs d):Az N w sz Q h l:=by
 obtain ⟨h1,h2,h3⟩:=b
 refine ⟨h1,h2,fun i hi=>?_⟩
 obtain ⟨g,g1,c,ty,k⟩:=h3 i hi
 obtain ⟨cs,e,a,f⟩:=j i g _ k
 exact ⟨g,0,cs,g1,c,e,by rw[yA];exact a,f⟩
theorem Ch.srcV{N:NP}{w:World}{L:Bh}{x:An}(h:Ch N (EV N w) (RV w) w L x):∃cs,cs.length=26∧w.rangeAt L.s 0 cs∧B8 N w L cs x:=by
 obtain ⟨c0,b,v0⟩:=h.season
 obtain ⟨c1,r1,j⟩:=h.cap
 obtain ⟨c2,r2,e⟩:=h.start
 have a:=v0.len;have f:=j.len;have k:=e.len
 refine ⟨.string x.name::(c0++(c1++(c2++[L.lets.v,L.crops.v,L.reaches.v,L.farms.v,L.rots.v,L.rights.v,L.duties.v]))),by simp[a,f,k],?_,?_⟩
 ·exact A5 h.name.2 (Bl a b (Bl f r1 (Bl k r2 (A5 h.hlets (A5 h.hcrops (A5 h.hreaches (A5 h.hfarms (A5 h.hrots (A5 h.hrights (C9 h.hduties))))))))))
 refine ⟨h.name.1,⟨c0,c1,c2,rfl,v0,j,e⟩,?_,?_,?_,?_,?_,?_,?_⟩
 ·refine h.lets.isRow fun i g d ⟨h1,c0,b,v0⟩=>?_
  have a:=v0.len
  exact ⟨.string d.name::c0,by simp[a],A5 h1.2 b,h1.1,c0,rfl,v0⟩
 ·refine h.crops.isRow fun i g d ⟨h1,c0,b,v0⟩=>?_
  have a:=v0.len
  exact ⟨.string d.name::c0,by simp[a],A5 h1.2 b,h1.1,c0,rfl,v0⟩
 ·refine h.reaches.isRow fun i g d ⟨h1,c,⟨c0,b,v0⟩,⟨c1,r1,j⟩,⟨c2,r2,e⟩,⟨m,q,v3⟩,⟨o,r,v4⟩,⟨u,H,v5⟩,⟨B,E,C⟩,⟨y,G,z⟩⟩=>?_
  have a:=v0.len;have f:=j.len;have k:=e.len;have n:=v3.len;have p:=v4.len;have A:=v5.len;have D:=C.len;have J:=z.len
  exact ⟨.string d.name::(Ah d.frm++(c0++(c1++(c2++(m++(o++(u++(B++y)))))))),by simp[A7,a,f,k,n,p,A,D,J],
   A5 h1.2 (Ep c (Bl a b (Bl f r1 (Bl k r2 (Bl n q (Bl p r (Bl A H (Bl D E G)))))))),h1.1,c.1,c0,c1,c2,m,o,u,B,y,rfl,v0,j,e,v3,v4,v5,C,z⟩
 ·refine h.farms.isRow fun i g d ⟨h1,c,l,⟨c0,b,v0⟩,hc⟩=>?_
  have a:=v0.len
  exact ⟨.string d.name::(Ah d.on++(.bool d.river::(c0++Ah d.crop))),by simp[A7,a],A5 h1.2 (Ep c (A5 l (Bl a b (Lg hc)))),h1.1,c.1,hc.1,c0,rfl,v0⟩
 ·obtain ⟨h1,h2,h3⟩:=h.rots
  refine ⟨h1,h2,fun i hi=>?_⟩
  obtain ⟨g,g1,F,ty,t,c,l,⟨c0,b,v0⟩,⟨c1,r1,j⟩,⟨c2,r2,e⟩,K,I⟩:=h3 i hi
  have a:=v0.len;have f:=j.len;have k:=e.len
  refine ⟨g,0,.string (x.rots[i]).name::(Ah (x.rots[i]).on++(iV (x.rots[i]).rank::(c0++(c1++(c2++[(A4 L i).v]))))),g1,F,by simp[A7,a,f,k],?_,t.1,c.1,c0,c1,c2,rfl,v0,j,e,?_⟩
  ·rw[yA]
   exact A5 t.2 (Ep c (A5 l (Bl a b (Bl f r1 (Bl k r2 (C9 K))))))
  ·refine I.isRow fun i g d ⟨c,c0,b,v0⟩=>?_
   have a:=v0.len
   exact ⟨Ah d.farm++c0,by simp[A7,a],Ep c b,c.1,c0,rfl,v0⟩
 ·refine h.rights.isRow fun i g d ⟨h0,h1,c,hc,l,⟨c0,b,v0⟩,⟨c1,r1,j⟩,⟨c2,r2,e⟩,⟨m,q,v3⟩,⟨o,r,v4⟩⟩=>?_
  have a:=v0.len;have f:=j.len;have k:=e.len;have n:=v3.len;have p:=v4.len
  exact ⟨iV d.kind::.string d.name::(Ah d.farm++(Ah d.reach++(iV d.rank::(c0++(c1++(c2++(m++o))))))),by simp[A7,a,f,k,n,p],
   A5 h0 (A5 h1.2 (Ep c (Ep hc (A5 l (Bl a b (Bl f r1 (Bl k r2 (Bl n q r)))))))),h1.1,c.1,hc.1,c0,c1,c2,m,o,rfl,v0,j,e,v3,v4⟩
 ·refine h.duties.isRow fun i g d ⟨h1,c,hc,⟨c0,b,v0⟩⟩=>?_
  have a:=v0.len
  exact ⟨.string d.name::(Ah d.farm++(Ah d.reach++c0)),by simp[A7,a],A5 h1.2 (Ep c (Ep hc b)),h1.1,c.1,hc.1,c0,rfl,v0⟩
theorem Ji{ops:Array Oper}{o:Oper}{a:Act}{K:Act->World->Prop}{Q:QT}{E:Prop}{W:World}{t e:TypeId}{r:TypeInfo}{z:Value}{size d:Nat}(R:Try.prog.underlying t=some (.slice e))(hi:Try.prog.info? e=some r)(D:r.zero=some z)(O:r.size=size)(N:r.bytes=d)(L:z.cells.size=size)(J:0 < size)(M:d<=10000)
 (B:Nat)(I:o.guard=none)(s x:Operand)(T:o.op=.call {callee:=.builtin .append,args:=#[s,x],argTypes:=#[t,t]})(v:Value)(n:Nat)(xs:LV)(hs:a.eval s=v)(f:W.ownsRow B e size v n xs)
 (X:Value)(m:Nat)(y:LV)(P:a.eval x=X)(V:BP W X m size y)(p:n+m<=1000000)(l:B<=W.heap.size)
 (h:∀(A:Option Addr) (c:Nat) w',w'.ownsRow B e size (.slice A (n+m) c) (n+m) (xs++y)->W.grownBy w' v.ownBlock->K (a.put o.dst (.slice A (n+m) c)) w'):
  if Region.wanted o (yielded ops a.tmps)=true then Oper.wp Try.prog o a W K Q else E:=by
 have Z:Region.wanted o (yielded ops a.tmps)=true:=by simp[Region.wanted,I]
 rw[yx Z]
 obtain ⟨w,F,A,cap,rfl,k⟩:=V
 by_cases S:m=0
 ·subst S
  obtain rfl:y=[]:=z6.1 (by simpa using w)
  have q:=EF R hi W B o.type v n xs f A cap
  obtain ⟨va,C,rfl⟩:∃a c,v=.slice a n c:=by
   rcases f.2 with ⟨rfl,G⟩|⟨g,cap,H,rfl,_⟩
   ·exact ⟨none,0,by rw[G]⟩
   ·exact ⟨_,_,rfl⟩
  unfold Oper.wp
  simp[execOp,T,resolve,invoke,builtin,hs,P,q,Result.andThen]
  have U:=h va C W (by simpa using f) ⟨rfl,rfl,rfl,ye _,fun _ _ _=>rfl⟩
  rw[xR] at U
  exact U
 ·obtain ⟨b,off,rfl,hb,hc⟩:=k.resolve_left S
  refine qg W s x t T B e r z size d R hi D O N L J v n xs hs f (aV b off) m cap y P w (fun j u Y=>?_) F (by unfold maxLen;omega) (by
   have:(n+m)*d<=1000000*10000:=Nat.mul_le_mul p M
   omega) l ?_
  ·rw[zy];exact hc j u Y
  ·intro v' w' i hg _
   obtain ⟨va,C,rfl⟩:∃a c,v'=.slice a (n+m) c:=by
    rcases i.2 with ⟨rfl,G⟩|⟨g,cap,H,rfl,_⟩
    ·exact ⟨none,0,by rw[G]⟩
    ·exact ⟨_,_,rfl⟩
   exact h va C w' i hg
theorem Ie{ops:Array Oper}{o:Oper}{a:Act}{rest:List Oper}{Q:QT}{W:World}{t e:TypeId}{k:TypeInfo}{z:Value}{size b:Nat}(F:Try.prog.underlying t=some (.slice e))(hi:Try.prog.info? e=some k)(l:k.zero=some z)(y:k.size=size)(w:k.bytes=b)(q:z.cells.size=size)(p:0 < size)(r:b<=10000)
 (B:Nat)(d:o.guard=none)(s x:Operand)(G:o.op=.call {callee:=.builtin .append,args:=#[s,x],argTypes:=#[t,t]})(v:Value)(n:Nat)(xs:LV)(hs:a.eval s=v)(i:W.ownsRow B e size v n xs)
 (X:Value)(m:Nat)(u:LV)(D:a.eval x=X)(A:BP W X m size u)(g:n+m<=1000000)(f:B<=W.heap.size)
 (h:∀(j:Option Addr) (c:Nat) w',w'.ownsRow B e size (.slice j (n+m) c) (n+m) (xs++u)->W.grownBy w' v.ownBlock->wpList Try.prog ops Q rest (a.put o.dst (.slice j (n+m) c)) w'):wpList Try.prog ops Q (o::rest) a W:=
 yF d fun K C=>by
  have H:=Ji (ops:=ops) (E:=True) (K:=K) (Q:=Q) F hi l y w q p r B d s x G v n xs hs i X m u D A g f (fun j c w' h1 h2=>C _ _ (h j c w' h1 h2))
  rwa [yx (by simp[Region.wanted,d])] at H
theorem FT:∀(css:List LV) (sz:Nat),(∀cs∈css,cs.length=sz)->css.flatten.length=css.length*sz∧∀i (h:i < css.length) j,j < sz->css.flatten[i*sz+j]?=css[i][j]?
 |[],sz,_=>⟨by simp,fun i h=>by simp at h⟩
 |c::r,sz,h=>by
  obtain ⟨h1,h2⟩:=FT r sz (fun cs hc=>h cs (List.mem_cons_of_mem _ hc))
  have hc:=h c List.mem_cons_self
  refine ⟨by rw[xP,ym,h1,hc,yE,Nat.add_mul];omega,fun i hi j a=>?_⟩
  cases i with
  |zero=>rw[xP,Nat.zero_mul,yA,zx (by omega)];rfl
  |succ i=>
   rw[xP,yS (by rw[hc,Nat.add_mul];omega),hc,show (i+1)*sz+j - sz=i*sz+j by rw[Nat.add_mul];omega]
   exact h2 i (by simpa using hi) j a
theorem PZ{α:Type}{N:NP}{w:World}{sz:Nat}{Q:LV->α->Prop}{h:Av}{l:List α}(C:Az N w sz Q h l)(hN:∀b,N b->b < w.heap.size)(k:∀cs d,Q cs d->∀v∈cs,v.oneCell'=true):
  ∃css:List LV,css.length=l.length∧(∀i (hi:i < css.length) (f:i < l.length),css[i].length=sz∧Q css[i] l[i])∧(∀cs∈css,cs.length=sz)∧BP w h.v h.n sz css.flatten:=by
 obtain ⟨h1,h2,h3⟩:=C
 have t:∀i,∃cs:LV,∀(hi:i < l.length),cs.length=sz∧Q cs l[i]∧∃b o,h.a=some (aV b o)∧N b∧w.rangeAt b (o+i*sz) cs:=fun i=>by
  by_cases hi:i < l.length
  ·obtain ⟨b,o,cs,g1,K,D,G,E⟩:=h3 i hi
   exact ⟨cs,fun _=>⟨D,E,b,o,g1,K,G⟩⟩
  ·exact ⟨[],fun h=>absurd h hi⟩
 obtain ⟨F,g⟩:=Classical.axiomOfChoice t
 have hl:((List.range l.length).map F).length=l.length:=by simp
 have B:∀i (hi:i < ((List.range l.length).map F).length),((List.range l.length).map F)[i]=F i:=fun i hi=>by simp
 have m:∀cs∈(List.range l.length).map F,cs.length=sz:=fun cs hc=>by
  obtain ⟨i,hi,rfl⟩:=zw.1 hc
  exact (g i (yZ.1 hi)).1
 obtain ⟨x,J⟩:=FT _ sz m
 refine ⟨(List.range l.length).map F,hl,fun i hi f=>by rw[B i hi];exact ⟨(g i f).1,(g i f).2.1⟩,m,⟨by rw[x,hl,h1],fun u r=>?_,h.a,h.c,rfl,?_⟩⟩
 ·obtain ⟨cs,hc,r⟩:=List.mem_flatten.1 r
  obtain ⟨i,hi,rfl⟩:=zw.1 hc
  exact k _ _ (g i (yZ.1 hi)).2.1 u r
 ·by_cases h0:h.n=0
  ·exact .inl h0
  ·obtain ⟨_,_,b,o,y,hb,_⟩:=g 0 (by omega)
   refine .inr ⟨b,o,y,hN b hb,fun j u A=>?_⟩
   have q:=(yD.1 A).1
   rw[x,hl] at q
   have e:0 < sz:=by
    rcases Nat.eq_zero_or_pos sz with h|h
    ·subst h;omega
    ·exact h
   have hi:j / sz < l.length:=(Nat.div_lt_iff_lt_mul e).2 q
   have H:j % sz < sz:=Nat.mod_lt _ e
   have I:j / sz*sz+j % sz=j:=by rw[Nat.mul_comm];exact Nat.div_add_mod j sz
   have z:=J (j / sz) (by rw[hl];exact hi) (j % sz) H
   rw[I,A,B] at z
   obtain ⟨_,_,b',L,p,_,s⟩:=g (j / sz) hi
   rw[y] at p
   cases p
   have:=s (j % sz) u z.symm
   rw[show o+j / sz*sz+j % sz=o+j by omega] at this
   exact this
def F4{α:Type}(w:World)(t sz:Nat)(Q:LV->α->Prop)(l:List α)(e:Ending)(w':World):Prop:=
 ∃h:Av,e=.returned h.v∧h.n=l.length∧Below w.heap.size w w'∧∀i (hi:i < l.length),∃g cs,h.a=some ⟨g,0,none⟩∧w.heap.size<=g∧Ty w' g t∧cs.length=sz∧w'.rangeAt g (i*sz) cs∧Q cs l[i]
theorem Q0{α:Type}{w w1 w':World}{t sz:Nat}{Q:LV->α->Prop}{l:List α}{css:List LV}(hl:css.length=l.length)(C:∀i (hi:i < css.length) (B:i < l.length),css[i].length=sz∧Q css[i] l[i])(o:∀cs∈css,cs.length=sz)
 {a:Option Addr}{n c:Nat}(z:n=l.length)(d:w'.ownsRow w.heap.size t sz (.slice a (0+n) c) (0+n) ([]++css.flatten))(hb:Below w.heap.size w w1)(h:w1.grownBy w' (some w.heap.size))(H:w.heap.size<=w1.heap.size):F4 w t sz Q l (.returned (.slice a (0+n) c)) w':=by
 rw[yA,zj] at d
 refine ⟨⟨a,n,c⟩,by rw[yA];rfl,z,hb.trans ⟨h.os,h.tape,h.output,h.size,fun b D=>h.block b (by omega) (fun e=>by cases e;omega)⟩,fun i hi=>?_⟩
 obtain ⟨G,F⟩:=FT css sz o
 have f:i < css.length:=by omega
 obtain ⟨s,y⟩:=C i f hi
 rcases d.2 with ⟨_,h0⟩|⟨g,cap,A,v,q,x,_,_,_,E⟩
 ·omega
 ·simp only[zX,qb] at v
  obtain ⟨rfl,rfl⟩:=v
  refine ⟨g,css[i],rfl,q,⟨_,x⟩,s,fun j u r=>?_,y⟩
  have k:=(yD.1 r).1
  rw[s] at k
  have m:=(F i f j k).trans r
  rw[<-E] at m
  have p:=(yD.1 m).1
  rw[yM] at p
  rw[zH,yx (by omega)] at m
  simp only[World.cell?,x]
  simpa using m
section
variable{N:NP}{w:World}
theorem CV(r:Rf):∀v∈Ah r,v.oneCell'=true:=by intro v a;simp[Ah] at a;rcases a with rfl|rfl<;>rfl
theorem AI{v:Value}{l:LV}(h:v.oneCell'=true)(hl:∀u∈l,u.oneCell'=true):∀u∈v::l,u.oneCell'=true:=fun u a=>(yJ.1 a).elim (fun e=>e▸h) (hl u)
theorem Ap{l m:LV}(h:∀u∈l,u.oneCell'=true)(hl:∀u∈m,u.oneCell'=true):∀u∈l++m,u.oneCell'=true:=fun u a=>(yo.1 a).elim (h u) (hl u)
theorem Ai{e:Ex}{c:LV}(h:AP N w e c):∀v∈c,v.oneCell'=true:=by
 obtain ⟨a,cap,rfl,_⟩:=h.cells
 intro v b
 simp at b
 rcases b with rfl|rfl|rfl|rfl|rfl|rfl<;>rfl
theorem Pf(cs:LV)(d:Dx)(h:FP N w cs d):∀v∈cs,v.oneCell'=true:=by
 obtain ⟨_,c,rfl,g⟩:=h;exact AI rfl (Ai g)
theorem MZ(cs:LV)(d:BY)(h:Dq N w cs d):∀v∈cs,v.oneCell'=true:=by
 obtain ⟨_,c,rfl,g⟩:=h;exact AI rfl (Ai g)
theorem II(cs:LV)(d:Ax)(h:CG N w cs d):∀v∈cs,v.oneCell'=true:=by
 obtain ⟨_,_,c0,c1,c2,l,n,j,m,k,rfl,e,g1,i,b,g,c,f,a⟩:=h
 exact AI rfl (Ap (CV _) (Ap (Ai e) (Ap (Ai g1) (Ap (Ai i) (Ap (Ai b) (Ap (Ai g) (Ap (Ai c) (Ap (Ai f) (Ai a)))))))))
theorem N0(cs:LV)(d:BL)(h:DE N w cs d):∀v∈cs,v.oneCell'=true:=by
 obtain ⟨_,_,_,c,rfl,g⟩:=h;exact AI rfl (Ap (CV _) (AI rfl (Ap (Ai g) (CV _))))
theorem QX(cs:LV)(d:Bt)(h:Dm N w cs d):∀v∈cs,v.oneCell'=true:=by
 obtain ⟨_,c,rfl,g⟩:=h;exact Ap (CV _) (Ai g)
theorem IJ(cs:LV)(d:AG)(h:CH N w cs d):∀v∈cs,v.oneCell'=true:=by
 obtain ⟨_,_,_,c0,c1,c2,g,f,rfl,c,g1,b,e,a⟩:=h
 exact AI rfl (AI rfl (Ap (CV _) (Ap (CV _) (AI rfl (Ap (Ai c) (Ap (Ai g1) (Ap (Ai b) (Ap (Ai e) (Ai a)))))))))
theorem N3(cs:LV)(d:Ce)(h:DF N w cs d):∀v∈cs,v.oneCell'=true:=by
 obtain ⟨_,_,_,c,rfl,g⟩:=h;exact AI rfl (Ap (CV _) (Ap (CV _) (Ai g)))
end
theorem MK{T e:Nat}(f:Try.prog.underlying T=some (.slice e))(w:World)(a:Option Addr)(n c d b:Nat):(binOp .eql T (.slice a n c) (.slice none d b)).run Try.prog w=.ok (.bool a.isNone) w:=Lib.run_eql_slice_nil w _ _ a n c d b f
def FH(fn:Nat):Prop:=∀(w:World) (n c:Nat),Calls Try.prog fn #[.slice none n c] w fun e w'=>e=.returned (.slice none 0 0)∧w'=w
def FI(fn T sz:Nat):Prop:=∀(w:World) (a:Addr) (n c:Nat) (xs:LV) (b:TypeInfo) (z:Value),Try.prog.info? T=some b->b.zero=some z->b.size=sz->z.cells.size=sz->b.bytes<=10000->BP (w.alloc (.cells #[] T)) (.slice (some a) n c) n sz xs->(w.alloc (.cells #[] T)).ownsRow w.heap.size T sz (.slice (some ⟨w.heap.size,0,none⟩) 0 0) 0 []->0+n<=1000000->w.heap.size<=(w.alloc (.cells #[] T)).heap.size->
  Calls Try.prog fn #[.slice (some a) n c] w fun e w'=>∃d c2,e=.returned (.slice d (0+n) c2)∧w'.ownsRow w.heap.size T sz (.slice d (0+n) c2) (0+n) ([]++xs)∧(w.alloc (.cells #[] T)).grownBy w' (some w.heap.size)
theorem Di{fn T sz:Nat}(f:((Try.prog.info? T).bind fun i=>i.zero.map fun z=>(i.size,z.cells.size,decide (i.bytes<=10000)))=some (sz,sz,true))(y:FH fn)(A:FI fn T sz){α:Type}{N:NP}{w:World}{Q:LV->α->Prop}{h:Av}{l:List α}(r:Az N w sz Q h l)(hN:∀b,N b->b < w.heap.size)(m:∀cs d,Q cs d->∀v∈cs,v.oneCell'=true)(I:l.length<=100000):
  Calls Try.prog fn #[h.v] w (F4 w T sz Q l):=by
 obtain ⟨css,hl,G,t,k⟩:=PZ r hN m
 have q:=r.1
 obtain ⟨a,n,c⟩:=h
 unfold Av.v at k ⊢
 simp only at q k
 cases a with
 |none=>
  have s:l.length=0:=by
   rcases Nat.eq_zero_or_pos l.length with h|h
   ·exact h
   ·obtain ⟨_,_,_,h1,_⟩:=r.2.2 0 h;cases h1
  refine (y w n c).mono ?_
  rintro e w' ⟨rfl,rfl⟩
  exact ⟨⟨none,0,0⟩,rfl,s.symm,yg _ _,fun i hi=>by omega⟩
 |some a=>
  cases hi:Try.prog.info? T with
  |none=>simp[hi] at f
  |some i0=>
  cases x:i0.zero with
  |none=>simp[hi,x] at f
  |some z=>
  simp only[hi,x,xE,xL,yV,zq,yW] at f
  have g:Below w.heap.size w (w.alloc (.cells #[] T)):=(yg _ _).alloc (ye _) _
  refine (A w a n c css.flatten i0 z hi x f.1 f.2.1 f.2.2 ?_ ⟨by simp,.inr ⟨w.heap.size,0,#[],rfl,ye _,World.alloc_heap_new _ _,ye _,yz _,by simp,by simp⟩⟩ (by omega) g.size).mono ?_
  ·obtain ⟨r1,r2,H,D,B,F⟩:=k
   refine ⟨r1,r2,H,D,B,F.imp id ?_⟩
   rintro ⟨b,o,e,hb,hc⟩
   exact ⟨b,o,e,yp hb g.size,fun j u E=>(g.cell (p:=(aV b (o+j))) hb).trans (hc j u E)⟩
  ·rintro e w' ⟨J,c2,rfl,h5,C⟩
   exact Q0 hl G t q h5 g C g.size
theorem CW:FH 71∧FH 72∧FH 73∧FH 74∧FH 75∧FH 76∧FH 77∧FH 78∧FH 80:=by
 refine ⟨?_,?_,?_,?_,?_,?_,?_,?_,?_⟩
 all_goals
  intro w n c
  have f:=MK qt
  have i:=MK qu
  have d:=MK qv
  have j:=MK qx
  have e:=MK qy
  have g:=MK qz
  have a:=MK qA
  have h:=MK qK
  have b:=MK qp
  first|go_enter Try.func71,Try.ntmps71|go_enter Try.func72,Try.ntmps72|go_enter Try.func73,Try.ntmps73|go_enter Try.func74,Try.ntmps74|go_enter Try.func75,Try.ntmps75|go_enter Try.func76,Try.ntmps76|go_enter Try.func77,Try.ntmps77|go_enter Try.func78,Try.ntmps78|go_enter Try.func80,Try.ntmps80
  go_wp2
  go_ret
  exact ⟨rfl,rfl⟩
theorem CX:FI 71 55 7∧FI 72 57 7∧FI 73 51 51∧FI 74 59 12∧FI 75 64 23∧FI 76 68 37∧FI 77 70 11∧FI 78 66 8∧FI 80 26 6:=by
 refine ⟨?_,?_,?_,?_,?_,?_,?_,?_,?_⟩
 all_goals
  intro w a n c xs H z hi g p i l f e d h
  have A:=yb hi;have s:=yb g;have v:=yb p;have x:=yb i;have u:=yb l
  have q:=yb f;have m:=yb e;have k:=yb d;have y:=yb h
  clear hi g p i l f e d h
  have M:=MK qt
  have J:=MK qu
  have E:=MK qv
  have K:=MK qx
  have F:=MK qy
  have I:=MK qz
  have C:=MK qA
  have G:=MK qK
  have D:=MK qp
  first|go_enter Try.func71,Try.ntmps71|go_enter Try.func72,Try.ntmps72|go_enter Try.func73,Try.ntmps73|go_enter Try.func74,Try.ntmps74|go_enter Try.func75,Try.ntmps75|go_enter Try.func76,Try.ntmps76|go_enter Try.func77,Try.ntmps77|go_enter Try.func78,Try.ntmps78|go_enter Try.func80,Try.ntmps80
  go_wp2_with (first|(at_builtin;refine Ie (by first|exact qt|exact qu|exact qv|exact qx|exact qy|exact qz|exact qA|exact qK|exact qp) A.o s.o v.o rfl x.o (by decide) u.o w.heap.size rfl _ _ rfl (.slice (some (aV w.heap.size 0)) 0 0) 0 [] rfl m.o (.slice (some a) n c) n xs rfl q.o k.o y.o ?_;intro B c2 L b j;have r:=yb b;have t:=yb j;clear b j))
  go_ret
  exact ⟨B,c2,by simp,r.o,t.o⟩
theorem Q1{α:Type}{N:NP}{w:World}{Q:LV->α->Prop}{h:Av}{l:List α}(c:Az N w 7 Q h l)(hN:∀b,N b->b < w.heap.size)(a:∀cs d,Q cs d->∀v∈cs,v.oneCell'=true)(e:l.length<=100000):Calls Try.prog 71 #[h.v] w (F4 w 55 7 Q l):=Di (by kernel_rfl) CW.1 CX.1 c hN a e
theorem Oq{α:Type}{N:NP}{w:World}{Q:LV->α->Prop}{h:Av}{l:List α}(c:Az N w 7 Q h l)(hN:∀b,N b->b < w.heap.size)(a:∀cs d,Q cs d->∀v∈cs,v.oneCell'=true)(e:l.length<=100000):Calls Try.prog 72 #[h.v] w (F4 w 57 7 Q l):=Di (by kernel_rfl) CW.2.1 CX.2.1 c hN a e
theorem N4{α:Type}{N:NP}{w:World}{Q:LV->α->Prop}{h:Av}{l:List α}(c:Az N w 51 Q h l)(hN:∀b,N b->b < w.heap.size)(a:∀cs d,Q cs d->∀v∈cs,v.oneCell'=true)(e:l.length<=100000):Calls Try.prog 73 #[h.v] w (F4 w 51 51 Q l):=Di (by kernel_rfl) CW.2.2.1 CX.2.2.1 c hN a e
theorem Ot{α:Type}{N:NP}{w:World}{Q:LV->α->Prop}{h:Av}{l:List α}(c:Az N w 12 Q h l)(hN:∀b,N b->b < w.heap.size)(a:∀cs d,Q cs d->∀v∈cs,v.oneCell'=true)(e:l.length<=100000):Calls Try.prog 74 #[h.v] w (F4 w 59 12 Q l):=Di (by kernel_rfl) CW.2.2.2.1 CX.2.2.2.1 c hN a e
theorem Q2{α:Type}{N:NP}{w:World}{Q:LV->α->Prop}{h:Av}{l:List α}(c:Az N w 23 Q h l)(hN:∀b,N b->b < w.heap.size)(a:∀cs d,Q cs d->∀v∈cs,v.oneCell'=true)(e:l.length<=100000):Calls Try.prog 75 #[h.v] w (F4 w 64 23 Q l):=Di (by kernel_rfl) CW.2.2.2.2.1 CX.2.2.2.2.1 c hN a e
theorem N6{α:Type}{N:NP}{w:World}{Q:LV->α->Prop}{h:Av}{l:List α}(c:Az N w 37 Q h l)(hN:∀b,N b->b < w.heap.size)(a:∀cs d,Q cs d->∀v∈cs,v.oneCell'=true)(e:l.length<=100000):Calls Try.prog 76 #[h.v] w (F4 w 68 37 Q l):=Di (by kernel_rfl) CW.2.2.2.2.2.1 CX.2.2.2.2.2.1 c hN a e
theorem Ou{α:Type}{N:NP}{w:World}{Q:LV->α->Prop}{h:Av}{l:List α}(c:Az N w 11 Q h l)(hN:∀b,N b->b < w.heap.size)(a:∀cs d,Q cs d->∀v∈cs,v.oneCell'=true)(e:l.length<=100000):Calls Try.prog 77 #[h.v] w (F4 w 70 11 Q l):=Di (by kernel_rfl) CW.2.2.2.2.2.2.1 CX.2.2.2.2.2.2.1 c hN a e
theorem Ov{α:Type}{N:NP}{w:World}{Q:LV->α->Prop}{h:Av}{l:List α}(c:Az N w 8 Q h l)(hN:∀b,N b->b < w.heap.size)(a:∀cs d,Q cs d->∀v∈cs,v.oneCell'=true)(e:l.length<=100000):Calls Try.prog 78 #[h.v] w (F4 w 66 8 Q l):=Di (by kernel_rfl) CW.2.2.2.2.2.2.2.1 CX.2.2.2.2.2.2.2.1 c hN a e
theorem Ow{α:Type}{N:NP}{w:World}{Q:LV->α->Prop}{h:Av}{l:List α}(c:Az N w 6 Q h l)(hN:∀b,N b->b < w.heap.size)(a:∀cs d,Q cs d->∀v∈cs,v.oneCell'=true)(e:l.length<=100000):Calls Try.prog 80 #[h.v] w (F4 w 26 6 Q l):=Di (by kernel_rfl) CW.2.2.2.2.2.2.2.2 CX.2.2.2.2.2.2.2.2 c hN a e
mutual
def Hr(w:World)(B:NP):Ex->LV->Prop
 |.mk op n u rn ri args,cs=>∃a cap,cs=[.int .i64 op,.int .i64 n,.int .i64 u,.string rn,.int .i64 ri,.slice a args.length cap]∧args.length<=140737488355328∧rn.size<=maxLen∧Dy w B a 0 args
def Dy(w:World)(B:NP)(a:Option Addr):Nat->List Ex->Prop
 |_,[]=>True
 |i,e::r=>(∃g cs,a=some ⟨g,0,none⟩∧B g∧Ty w g 26∧w.rangeAt g (i*6) cs∧Hr w B e cs)∧Dy w B a (i+1) r
end
theorem Pg{w:World}{B:NP}{a:Option Addr}:∀ {l:List Ex} {k:Nat},(∀i (h:i < l.length),∃g cs,a=some ⟨g,0,none⟩∧B g∧Ty w g 26∧w.rangeAt g ((k+i)*6) cs∧Hr w B l[i] cs)->Dy w B a k l
 |[],_,_=>by rw[Dy];trivial
 |e::r,k,h=>by
  rw[Dy]
  refine ⟨h 0 (by simp),Pg fun i hi=>?_⟩
  obtain ⟨g,cs,h1,h2,h3,h4,h5⟩:=h (i+1) (by simpa using hi)
  exact ⟨g,cs,h1,h2,h3,by rw[show k+1+i=k+(i+1) by omega];exact h4,by simpa using h5⟩
theorem Ty.same{w w':World}{b t:Nat}(h:Ty w b t)(hb:w'.heap[b]?=w.heap[b]?):Ty w' b t:=by
 obtain ⟨c,e⟩:=h
 exact ⟨c,hb.trans e⟩
mutual
theorem Hr.same{w w':World}{B c:NP}(d:∀b,B b->b < w.heap.size->c b)(hb:∀b,B b->b < w.heap.size->w'.heap[b]?=w.heap[b]?):∀ {e:Ex} {cs:LV},Hr w B e cs->Hr w' c e cs
 |.mk _ _ _ _ _ args,_,h=>by
  rw[Hr] at h ⊢
  obtain ⟨a,cap,h1,h2,h3,h4⟩:=h
  exact ⟨a,cap,h1,h2,h3,Dy.same d hb h4⟩
theorem Dy.same{w w':World}{B d:NP}(c:∀b,B b->b < w.heap.size->d b){a:Option Addr}(hb:∀b,B b->b < w.heap.size->w'.heap[b]?=w.heap[b]?):∀ {l:List Ex} {k:Nat},Dy w B a k l->Dy w' d a k l
 |[],_,h=>by rw[Dy];trivial
 |e::r,k,h=>by
  rw[Dy] at h ⊢
  obtain ⟨⟨g,cs,h1,h2,h3,h4,h5⟩,h6⟩:=h
  exact ⟨⟨g,cs,h1,c g h2 h3.lt,h3.same (hb g h2 h3.lt),A2 h4 (hb g h2 h3.lt),Hr.same c hb h5⟩,Dy.same c hb h6⟩
end
theorem Hr.mk'{w:World}{B:NP}{e:Ex}{a:Option Addr}{cap:Nat}(h1:e.args.length<=140737488355328)(h2:e.rn.size<=maxLen)(h3:Dy w B a 0 e.args):
  Hr w B e [.int .i64 e.op,.int .i64 e.n,.int .i64 e.u,.string e.rn,.int .i64 e.ri,.slice a e.args.length cap]:=by
 cases e
 rw[Hr]
 exact ⟨a,cap,rfl,h1,h2,h3⟩
def Uf(W:World)(b o:Nat)(args:List Ex)(w':World):Prop:=
 W.grownBy w' (some b)∧(∀p,p≠o+5->w'.cell? ⟨b,p,none⟩=W.cell? ⟨b,p,none⟩)∧(∀t,Ty W b t->Ty w' b t)∧∃a cap,w'.cell? ⟨b,o+5,none⟩=some (.slice a args.length cap)∧Dy w' (fun b=>W.heap.size<=b) a 0 args
mutual
def Ba:Ex->Prop
 |.mk _ _ _ _ _ args=>args.length<=100000∧Er args
def Er:List Ex->Prop
 |[]=>True
 |e::r=>Ba e∧Er r
end
theorem IK:∀ {l:List Ex},Er l->∀i (h:i < l.length),Ba l[i]
 |[],_,i,h=>by simp at h
 |e::r,hl,0,_=>by rw[Er] at hl;exact hl.1
 |e::r,hl,i+1,h=>by rw[Er] at hl;exact IK hl.2 i (by simpa using h)
theorem Ig{W w':World}{b c p:Nat}(h:W.grownBy w' (some b))(hc:c < W.heap.size)(a:c≠b):w'.cell? ⟨c,p,none⟩=W.cell? ⟨c,p,none⟩:=by
 unfold World.cell?
 rw[h.block c hc (fun e=>a (by cases e;rfl))]
theorem Ty.frozen{w:World}{b t p:Nat}(h:Ty w b t):w.frozen? ⟨b,p,none⟩=false:=by
 obtain ⟨c,e⟩:=h
 simp[World.frozen?,e]
theorem Af{W:World}{b p:Nat}{u:Value}(v:Value)(hc:W.cell? ⟨b,p,none⟩=some u):
  W.grownBy (W.setCell ⟨b,p,none⟩ v) (some b)∧(∀q,q≠p->(W.setCell ⟨b,p,none⟩ v).cell? ⟨b,q,none⟩=W.cell? ⟨b,q,none⟩)∧(∀t,Ty W b t->Ty (W.setCell ⟨b,p,none⟩ v) b t)∧(W.setCell ⟨b,p,none⟩ v).cell? ⟨b,p,none⟩=some v:=by
 refine ⟨⟨rfl,rfl,rfl,by simp,fun i _ a=>yY W (aV b p) i v (fun e=>a (by rw[e]))⟩,fun q d=>World.cell?_setCell_other _ _ _ _ (fun e=>d (by cases e;rfl)),?_,World.cell?_setCell_same _ _ _ hc⟩
 rintro t ⟨c,e⟩
 exact ⟨_,za W b p c t v e⟩
structure Sk (W:World) (N:Nat->Prop) (b o:Nat) (a:Option Addr) (c:Nat) (args:List Ex) (i:Nat) (wr:World):Prop where
 grown:W.grownBy wr (some b)
 cells:∀p,p≠o+5->wr.cell? ⟨b,p,none⟩=W.cell? ⟨b,p,none⟩
 hdr:wr.cell? ⟨b,o+5,none⟩=some (.slice a args.length c)
 ty:∀t,Ty W b t->Ty wr b t
 rows:∀j (h:j < args.length),∃g cs,a=some ⟨g,0,none⟩∧W.heap.size<=g∧Ty wr g 26∧wr.rangeAt g (j*6) cs∧((j < i∧Hr wr (fun b=>g+1<=b) args[j] cs)∨(i<=j∧AP N wr args[j] cs))
theorem Sk.drew{W:World}{N:NP}{b o:Nat}{a:Option Addr}{c:Nat}{args:List Ex}{i:Nat}{wr:World}(h:Sk W N b o a c args i wr):Sk W N b o a c args i wr.drew:=by
 refine ⟨⟨h.grown.os,h.grown.tape,h.grown.output,h.grown.size,h.grown.block⟩,h.cells,h.hdr,h.ty,fun j d=>?_⟩
 obtain ⟨g,cs,h1,h2,h3,h4,h5⟩:=h.rows j d
 refine ⟨g,cs,h1,h2,h3,h4,h5.imp (fun h=>⟨h.1,Hr.same (w:=wr) (w':=wr.drew) (fun _ h _=>h) (fun _ _ _=>rfl) h.2⟩) (fun h=>⟨h.1,AP.same (w:=wr) (w':=wr.drew) (fun _ h=>h) (fun _ _=>rfl) h.2⟩)⟩
theorem Sk.next{W:World}{N:NP}{b o:Nat}{a:Option Addr}{c:Nat}{args:List Ex}{i:Nat}{wr w4:World}(h:Sk W N b o a c args i wr)(hi:i < args.length)(hb:b < W.heap.size)(hN:∀c,N c->c < W.heap.size∧c≠b){g:Nat}(I:a=some ⟨g,0,none⟩)
 (z:Uf wr g (i*6) args[i].args w4):Sk W N b o a c args (i+1) w4:=by
 obtain ⟨f,l,G,a',F,T,K⟩:=z
 obtain ⟨S,cs,h1,h2,h3,h4,h5⟩:=h.rows i hi
 obtain rfl:g=S:=by rw[I] at h1;cases h1;rfl
 have P:=h.grown.size
 have r:b≠g:=by omega
 have V:=h3.lt
 have C:w4.heap[b]?=wr.heap[b]?:=f.block b (by omega) (fun e=>r (by cases e;rfl))
 have J:∀p,w4.cell? (aV b p)=wr.cell? (aV b p):=fun p=>by unfold World.cell?;rw[C]
 refine ⟨⟨f.os.trans h.grown.os,f.tape.trans h.grown.tape,f.output.trans h.grown.output,yr P f.size,fun q U u=>(f.block q (by omega) (fun e=>by cases e;omega)).trans (h.grown.block q U u)⟩,fun p M=>(J p).trans (h.cells p M),(J _).trans h.hdr,fun t X=>(h.ty t X).same C,fun j Q=>?_⟩
 obtain ⟨g1,O,n,A,E,B,d⟩:=h.rows j Q
 obtain rfl:g=g1:=by rw[I] at n;cases n;rfl
 by_cases w:j=i
 ·subst w
  rcases d with ⟨d,_⟩|⟨_,d⟩
  ·omega
  obtain ⟨a0,H,rfl,e1,e2,e3⟩:=d.cells
  obtain ⟨Y,r1,r2,L,R,r5⟩:=Br B
  refine ⟨g,_,n,A,G _ E,A5 ((l _ (by omega)).trans Y) (A5 ((l _ (by omega)).trans r1) (A5 ((l _ (by omega)).trans r2) (A5 ((l _ (by omega)).trans L) (A5 ((l _ (by omega)).trans R) (C9 T))))),.inl ⟨by omega,Hr.mk' e1 e2 (K.same (fun x m _=>by have:wr.heap.size<=x:=m;show g+1<=x;omega) (fun _ _ _=>rfl))⟩⟩
 ·refine ⟨g,O,n,A,G _ E,fun k v D=>?_,?_⟩
  ·have hl:k < 6:=by
    have h1:=(yD.1 D).1
    rcases d with ⟨_,d⟩|⟨_,d⟩
    ·cases Z:args[j] with
     |mk=>rw[Z,Hr] at d;obtain ⟨_,_,rfl,_⟩:=d;simpa using h1
    ·rw[d.len] at h1;exact h1
   exact (l _ (by omega)).trans (B k v D)
  ·rcases d with ⟨d,s⟩|⟨d,s⟩
   ·exact .inl ⟨by omega,s.same (fun _ h _=>h) (fun x m y=>f.block x y (fun e=>by cases e;have:g+1<=g:=m;omega))⟩
   ·exact .inr ⟨by omega,s.same (fun _ h=>h) (fun x m=>f.block x (by have:=(hN x m).1;omega) (fun e=>by cases e;have:=(hN g m).1;omega))⟩
theorem QY(N:NP)(Bx:Nat):∀(e:Ex) (b o t:Nat) (cs:LV) (W:World),AP N W e cs->W.rangeAt b o cs->Ty W b t->Ba e->(∀c,N c->c < W.heap.size∧c≠b)->Bx≠b->W.cell? ⟨Bx,0,none⟩=some (.func (.func 79) #[] #[.pointer (some ⟨Bx,0,none⟩)])->
  Calls Try.prog 79 #[.pointer (some ⟨b,o,none⟩),.pointer (some ⟨Bx,0,none⟩)] W fun x w'=>x=.returned (.tuple #[])∧Uf W b o e.args w':=by
 refine GK fun op nn u rn ri args ih=>?_
 intro b o t cs W V Q ty s hN T z
 rw[AP] at V
 obtain ⟨a,cap,rfl,hl,hr,F⟩:=V
 rw[Ba] at s
 obtain ⟨-, -, -, -, -,c5⟩:=Br Q
 have P:Az N W 6 (fun c d=>AP N W d c) ⟨a,args.length,cap⟩ args:=⟨rfl,hl,fun i hi=>by
  obtain ⟨b',o',c,g1,g2,g3,g4⟩:=DJ F i hi
  exact ⟨b',o',c,g1,g2,g4.len,by rw[yA] at g3;exact g3,g4⟩⟩
 have A:=Ow P (fun c hc=>(hN c hc).1) (fun c d h=>Ai h) s.1
 have af:=yb A
 have IH:=yb ih
 have HN:=yb hN
 have a6:=yb ty
 have ad:=yb s.2
 have aa:=yb s.1
 have a2:=yb (zI W _ z)
 have r:=yb (zI W _ c5)
 have L:=yb T
 have w:=yb z
 show Calls _ _ _ _ (fun x w'=>x=.returned (.tuple #[])∧Uf W b o args w')
 clear P A ih hN ty s Q F z T hl hr
 go_enter Try.func79,Try.ntmps79
 go_wp2_with (first|(go_at_call 80;refine af.o.mono ?_;rintro e w1 ⟨⟨l,n',f⟩,rfl,I,C,n⟩;rw[show Av.v ⟨l,n',f⟩=Value.slice l n' f from rfl];simp only at I n;have d5:=(C.cell (p:=(aV b (o+5))) r.o).trans c5;have df:=(Ty.same a6.o (C.block b r.o)).frozen (p:=o+5);have m:=yb C;have Y:=yb I;have y:=yb n;clear C I n))
 obtain rfl:=Y.o.symm
 have hI:Sk W N b o l f args 0 (w1.setCell (aV b (o+5)) (.slice l args.length f)):=by
  obtain ⟨H,s2,s3,s4⟩:=Af (.slice l args.length f) d5
  have a8:=m.o.size
  refine ⟨⟨H.os.trans m.o.os,H.tape.trans m.o.tape,H.output.trans m.o.output,yr a8 H.size,fun q hq ag=>(H.block q (by omega) ag).trans (m.o.block q hq)⟩,fun p hp=>(s2 p hp).trans (m.o.cell (p:=(aV b p)) r.o),s4,fun t ht=>s3 t (ht.same (m.o.block b r.o)),fun j hj=>?_⟩
  obtain ⟨g,cs,q1,U,G,M,K,q6⟩:=y.o j hj
  have a1:g≠b:=by have:=r.o;omega
  have hg:(w1.setCell (aV b (o+5)) (.slice l args.length f)).heap[g]?=w1.heap[g]?:=H.block g G.lt (fun e=>a1 (by cases e;rfl))
  refine ⟨g,cs,q1,U,G.same hg,A2 K hg,.inr ⟨yz _,q6.same (fun _ h=>h) (fun x hx=>?_)⟩⟩
  have X:=HN.o x hx
  exact (H.block x (by omega) (fun e=>X.2 (by cases e;rfl))).trans (m.o.block x X.1)
 have a0:=yb hI
 have ah:args.length<=100000:=aa.o
 clear hI d5 df c5
 generalize w1.setCell (aV b (o+5)) (.slice l args.length f)=w2 at*
 have e5:=a0.o.hdr
 clear m y Y
 go_wp2
 clear e5
 go_loopw [17] (fun iv wr=>∃i:Nat,i<=args.length∧iv=iV i∧Hid (Sk W N b o l f args i wr)) (fun iv _=>args.length - (intOf iv).toNat)
 case atStart=>exact ⟨0,yz _,rfl,a0⟩
 case round=>
  obtain ⟨i,hi,rfl,k⟩:=hrel
  by_cases B:i < args.length
  ·obtain ⟨g,cs,rfl,U,G,M,K⟩:=k.o.drew.rows i B
   have V:AP N wr.drew args[i] cs:=K.elim (fun h=>by omega) (fun h=>h.2)
   have hz:=k.o.grown.size
   have R:=r.o
   have J:=a2.o
   have D:wr.drew.cell? (aV Bx 0)=some (.func (.func 79) #[] #[pV Bx 0]):=(Ig k.o.grown J L.o).trans w.o
   have E:=IH.o args[i] (yy B) g (i*6) 26 cs wr.drew V M G (IK ad.o i B) (fun c hc=>by have:=HN.o c hc;show c < wr.heap.size∧_;omega) (by omega) D
   have Z:=yb E
   have a7:(i:Int) < (args.length:Int):=by omega
   have S:=fun w4=>k.o.drew.next (w4:=w4) B R HN.o rfl
   have ab:=yb S
   have e5:=k.o.hdr
   have eB:wr.cell? (aV Bx 0)=some (.func (.func 79) #[] #[pV Bx 0]):=D
   have ae:Hid (wr.drew.cell? (aV Bx 0)=some (.func (.func 79) #[] #[pV Bx 0])∧wr.drew.cell? (aV b (o+5))=some (.slice (some (aV g 0)) args.length f)):=yb ⟨D,e5⟩
   have HQ:Hid (∀w4,Sk W N b o (some (aV g 0)) f args (i+1) w4->w4.cell? (aV Bx 0)=some (.func (.func 79) #[] #[pV Bx 0])∧w4.cell? (aV b (o+5))=some (.slice (some (aV g 0)) args.length f)):=yb (fun w4 h=>⟨(Ig h.grown J L.o).trans w.o,h.hdr⟩)
   clear V U G M K hz R J D E S
   go_wp2_with fail
   go_region_held3 (fun w'=>w'.cell? (aV Bx 0)=some (.func (.func 79) #[] #[pV Bx 0])∧w'.cell? (aV b (o+5))=some (.slice (some (aV g 0)) args.length f)) (first|exact ae.o|exact ac.o)
    (first|(go_at_call 79;refine Z.o.mono ?_;rintro e w4 ⟨rfl,A⟩;have O:=yb (ab.o w4 A);have ac:=yb (HQ.o w4 O.o);clear A))
   go_wp2
   exact ⟨⟨i+1,by omega,by push_cast;rfl,O⟩,by simp[intOf];omega⟩
  ·obtain rfl:i=args.length:=by omega
   have a7:decide ((args.length:Int) < (args.length:Int))=false:=by simp
   go_wp2
   go_end0
   refine ⟨rfl,k.o.grown,k.o.cells,k.o.ty,l,f,k.o.hdr,Pg fun j hj=>?_⟩
   obtain ⟨g,cs,q1,U,G,M,K⟩:=k.o.rows j hj
   rw[yA]
   exact ⟨g,cs,q1,U,G,M,K.elim (fun h=>h.2.same (fun x hx _=>by have:g+1<=x:=hx;show W.heap.size<=x;omega) (fun _ _ _=>rfl)) (fun h=>by omega)⟩
theorem Ph:∀(e:Ex) {N N':NP} {w:World} {e':Ex} {cs:LV},AP N w e cs->AP N' w e' cs->e=e':=by
 refine GK fun op y u rn ri args ih=>?_
 intro N N' w e' cs h m
 cases e' with
 |mk op' nn' u' rn' ri' args'=>
  rw[AP] at h m
  obtain ⟨a,cap,rfl,_,_,r⟩:=h
  obtain ⟨A,n,q,_,_,d⟩:=m
  simp only[xz,Value.int.injEq,Value.string.injEq,zX,qb,and_true] at q
  obtain ⟨rfl,rfl,rfl,rfl,rfl,rfl,hl,rfl⟩:=q
  have:args=args':=by
   refine zM hl fun i hi g=>?_
   obtain ⟨b,o,c,g1,_,s,p⟩:=DJ r i hi
   obtain ⟨b',z,t,k,_,x,l⟩:=DJ d i g
   rw[g1] at k
   cases k
   have hc:c=t:=by
    refine zM (by rw[p.len,l.len]) fun j v f=>?_
    have h1:=s j _ (yk v)
    have h2:=x j _ (yk f)
    rw[h1] at h2
    exact yh h2
   subst hc
   exact ih _ (yy hi) p l
  rw[this]
mutual
theorem Hr.exV{w:World}{M N:NP}(hM:∀b,M b->b < w.heap.size->N b):∀ {e:Ex} {cs:LV},Hr w M e cs->AP N w e cs
 |.mk _ _ _ _ _ args,_,h=>by
  rw[Hr] at h
  rw[AP]
  obtain ⟨a,cap,h1,h2,h3,h4⟩:=h
  exact ⟨a,cap,h1,h2,h3,Dy.rowV hM h4⟩
theorem Dy.rowV{w:World}{M N:NP}{a:Option Addr}(hM:∀b,M b->b < w.heap.size->N b):∀ {l:List Ex} {k:Nat},Dy w M a k l->Db N w a k l
 |[],_,h=>by rw[Db];trivial
 |e::r,k,h=>by
  rw[Dy] at h
  rw[Db]
  obtain ⟨⟨g,cs,h1,h2,h3,h4,h5⟩,h6⟩:=h
  exact ⟨⟨g,0,cs,h1,hM g h2 h3.lt,by rw[yA];exact h4,Hr.exV hM h5⟩,Dy.rowV hM h6⟩
end
mutual
def JB:Ex->Int->Int
 |.mk _ _ _ _ _ args,most=>KN args most 1
def KN:List Ex->Int->Int->Int
 |[],_,n=>n
 |e::r,most,n=>if n < most then KN r most (n+JB e (most - n)) else n
end
mutual
theorem I0:∀(e:Ex) (most:Int),1<=JB e most∧JB e most<=max 1 most
 |.mk _ _ _ _ _ args,most=>by rw[JB];exact M9 args most 1
theorem M9:∀(l:List Ex) (most n:Int),n<=KN l most n∧KN l most n<=max n most
 |[],most,n=>by rw[KN];omega
 |e::r,most,n=>by
  rw[KN]
  split
  ·have h1:=I0 e (most - n)
   have h2:=M9 r most (n+JB e (most - n))
   omega
  ·omega
end
mutual
theorem N7:∀(e:Ex) (most:Int),JB e most < most->(AR e:Int)+1<=JB e most
 |.mk _ _ _ _ _ args,most,h=>by
  rw[JB] at h ⊢
  rw[AR]
  have:=(JV args most 1 (by omega) h).1
  omega
theorem JV:∀(l:List Ex) (most n:Int),1<=n->KN l most n < most->(Bm l:Int)+n<=KN l most n∧n+l.length<=KN l most n
 |[],most,n,_,h=>by rw[KN,Bm];simp
 |e::r,most,n,hn,h=>by
  rw[KN] at h ⊢
  split at h
  ·rename_i a
   rw[yx a]
   have h1:=I0 e (most - n)
   have h2:=M9 r most (n+JB e (most - n))
   obtain ⟨h3,h4⟩:=JV r most (n+JB e (most - n)) (by omega) h
   have h5:=N7 e (most - n) (by omega)
   rw[Bm,yE]
   omega
  ·omega
end
mutual
theorem N8:∀(e:Ex) (most:Int),most<=5001->JB e most < most->Ba e
 |.mk _ _ _ _ _ args,most,h0,h=>by
  rw[JB] at h
  rw[Ba]
  have:=(JV args most 1 (by omega) h).2
  exact ⟨by omega,N9 args most 1 (by omega) h0 h⟩
theorem N9:∀(l:List Ex) (most n:Int),1<=n->most<=5001->KN l most n < most->Er l
 |[],most,n,_,_,h=>by rw[Er];trivial
 |e::r,most,n,hn,h0,h=>by
  rw[KN] at h
  rw[Er]
  split at h
  ·rename_i a
   have h1:=I0 e (most - n)
   have h2:=M9 r most (n+JB e (most - n))
   exact ⟨N8 e (most - n) (by omega) (by omega),N9 r most (n+JB e (most - n)) (by omega) h0 h⟩
  ·omega
end
theorem D5{α:Type}{l:List α}{i:Nat}(h:i < l.length):l.drop i=l[i]::l.drop (i+1):=List.drop_eq_getElem_cons h
theorem QZ:∀(e:Ex) {N:NP} {w:World} {cs:LV} {most:Int},AP N w e cs->(∀b,N b->b < w.heap.size)->1<=most->most<=5001->
  Calls Try.prog 23 #[.agg cs.toArray,.int .i64 most] w fun x w'=>x=.returned (.int .i64 (JB e most))∧Below w.heap.size w w':=by
 refine GK fun op B u rn ri args ih=>?_
 intro N w cs most h hN Z W
 rw[AP] at h
 obtain ⟨a,cap,rfl,hl,hr,j⟩:=h
 have E:=yb j
 have I:=yb hN
 have Y:=yb ih
 have T:JB (.mk op B u rn ri args) most=KN args most 1:=rfl
 rw[T]
 generalize V:args.length=m at hl ⊢
 have R:=yb V
 generalize P:KN args most 1=S
 have A:Hid (KN (args.drop 0) most 1=S):=yb P
 clear j hN ih T V P
 go_enter Try.func23,Try.ntmps23
 go_wp2
 have c:=yb ((yg w.heap.size w).alloc (ye _) (.cells #[iV op,iV B,iV u,.string rn,iV ri,.slice a m cap] 26))
 have v:Hid ((w.alloc (.cells #[iV op,iV B,iV u,.string rn,iV ri,.slice a m cap] 26)).cell? (aV w.heap.size 5)=some (.slice a m cap)):=yb (by
  have h:=World.alloc_heap_new w (.cells #[iV op,iV B,iV u,.string rn,iV ri,.slice a m cap] 26)
  simp only[World.cell?,h];rfl)
 obtain ⟨l,k⟩:∃l,l=w.alloc (.cells #[iV op,iV B,iV u,.string rn,iV ri,.slice a m cap] 26):=⟨_,rfl⟩
 rw[<-k] at c v ⊢
 have HZ:Hid (l.heap.size=w.heap.size+1):=yb (by rw[k];simp)
 clear k
 have y:=yb (yg l.heap.size l)
 go_loopw [5,6] (fun nv L wr=>∃(i:Nat) (n:Int),nv=iV n∧L=iV i∧i<=m∧1<=n∧n<=max 1 most∧Hid (KN (args.drop i) most n=S)∧Hid (Below l.heap.size l wr)) (fun _ L _=>m - (intOf L).toNat)
 case atStart=>exact ⟨0,1,rfl,rfl,yz _,by omega,by omega,A,y⟩
 case round=>
  clear A y
  obtain ⟨i,n,rfl,rfl,hi,a1,X,G,t⟩:=hrel
  have a6:wr.cell? (aV w.heap.size 5)=some (.slice a m cap):=(t.o.cell (p:=(aV w.heap.size 5)) (by rw[HZ.o];exact xF _)).trans v.o
  by_cases J:i < m
  ·have f:i < args.length:=by rw[R.o];exact J
   have H:(i:Int) < (m:Int):=by omega
   by_cases C:n < most
   ·obtain ⟨b,o,cs,rfl,K,z,r⟩:=DJ E.o i f
    have g:=c.o.trans (t.o.mono c.o.size)
    have d:=A2 z (g.block b (I.o b K))
    obtain ⟨a',U,rfl,_⟩:=r.cells
    rw[yA] at d
    obtain ⟨c0,c1,c2,c3,c4,c5⟩:=Br d
    have Q:=yb (Y.o args[i] (yy f) (w:=wr) (most:=most - n) (AP.same (fun b h=>h) (Dc I.o g) r) (fun b h=>yp (I.o b h) g.size) (by omega) (by omega))
    have D:Hid (KN (args.drop (i+1)) most (n+JB args[i] (most - n))=S):=yb (by
     have h:=G.o
     rw[D5 f,KN,yx C] at h
     exact h)
    have q:=I0 args[i] (most - n)
    generalize args[i]=x at*
    generalize JB x (most - n)=s at q Q D
    have a2:1<=s:=q.1
    have a0:s<=most - n:=by omega
    clear r z d q g
    go_wp2_with (first|(go_at_call 23;refine Q.o.mono ?_;rintro e w2 ⟨rfl,F⟩;have O:=yb (t.o.trans (F.mono t.o.size));clear F))
    exact ⟨⟨i+1,n+s,rfl,by go_num,by omega,by omega,by omega,D,O⟩,by simp[intOf];omega⟩
   ·have M:Hid (n=S):=yb (by
     have h:=G.o
     rw[D5 f,KN,yu C] at h
     exact h)
    go_wp2
    go_ret
    exact ⟨Ju M.o,c.o.trans (t.o.mono c.o.size)⟩
  ·obtain rfl:i=m:=by omega
   have M:Hid (n=S):=yb (by
    have h:=G.o
    rw[<-R.o,zk,KN] at h
    exact h)
   have H:decide ((i:Int) < (i:Int))=false:=by simp
   go_wp2
   go_ret
   exact ⟨Ju M.o,c.o.trans (t.o.mono c.o.size)⟩

def BI:List (List Us × Bool)->List Us × Bool
 |[]=>([],true)
 |x::r=>if x.2 then (x.1++(BI r).1,(BI r).2) else (x.1,false)
theorem Es:∀(l m:List (List Us × Bool)),BI (l++m)=if (BI l).2 then ((BI l).1++(BI m).1,(BI m).2) else BI l
 |[],m=>by simp[BI]
 |x::r,m=>by
  simp only[z7,BI,Es r m]
  by_cases h1:x.2=true
  ·by_cases h2:(BI r).2=true
   ·simp[h1,h2]
   ·simp[h1,h2]
  ·simp[h1]
theorem Lh{l:List (List Us × Bool)}{k:Nat}(h:k < l.length)(a:(BI (l.take k)).2=true):BI (l.take (k+1))=((BI (l.take k)).1++l[k].1,l[k].2):=by
 rw[yq h,Es,a,yx rfl]
 simp only[BI]
 by_cases h1:l[k].2=true
 ·simp[h1]
 ·simp[h1]
theorem R4(l:List (List Us × Bool))(k:Nat):∃post,(BI l).1=(BI (l.take k)).1++post:=by
 have h:=Es (l.take k) (l.drop k)
 rw[xy] at h
 rw[h]
 by_cases h1:(BI (l.take k)).2=true
 ·rw[yx h1];exact ⟨_,rfl⟩
 ·rw[yu h1];exact ⟨[],by simp⟩
theorem Q3{l:List (List Us × Bool)}{k:Nat}(h:(BI (l.take k)).2=false):BI l=BI (l.take k):=by
 have h2:=Es (l.take k) (l.drop k)
 rw[xy,h] at h2
 exact h2
def D8(e:Ex):Bool:=FQ e.op e.n e.u e.rn e.ri e.args.length
def R5(a:Array Value):Addr:=match a.getD 0 undef with
 |.pointer (some p)=>p
 |_=>⟨0,0,none⟩
def Ct(w:World)(a:Array Value)(e:KK):List Us × Bool:=if D8 e.1 then ([],true) else Cg w e.2 e.1 (R5 a).block (R5 a).off
def Ds(w:World)(L:Bh)(x:An):List (List Us × Bool):=List.zipWith (Ct w) (BO L) (AL x)
def D3(a:Addr)(to at_:Int)(r:Rf):Us:=⟨a.block,a.off,to,at_,r.name,r.n⟩
def E4(h:Av)(l:List BL)(i:Nat):List Us:=match l[i]? with
 |some d=> [D3 (h.at 12 i 1) 4 0 d.on,D3 (h.at 12 i 10) (if d.river then 0 else 3) 0 d.crop]
 |none=> []
def EM(h:Av)(l:List Bt)(i:Nat):List Us:=match l[i]? with
 |some d=> [D3 (h.at 8 i 0) 5 0 d.farm]
 |none=> []
def Gl(L:Bh)(l:List B7)(i:Nat):List Us:=match l[i]? with
 |some d=>D3 (L.rots.at 23 i 1) 4 0 d.on::(List.range (A4 L i).n).flatMap (EM (A4 L i) d.turns)
 |none=> []
def CY(h:Av)(l:List AG)(i:Nat):List Us:=match l[i]? with
 |some d=> [D3 (h.at 37 i 2) 5 0 d.farm,D3 (h.at 37 i 4) (if d.kind=1 then 0 else 4) 0 d.reach]
 |none=> []
def DM(h:Av)(l:List Ce)(i:Nat):List Us:=match l[i]? with
 |some d=> [D3 (h.at 11 i 1) 5 0 d.farm,D3 (h.at 11 i 3) 4 0 d.reach]
 |none=> []
def GO(k:Int):Bool:=decide (1<=k)&&decide (k<=3)
def Ci(x:An):Bool:=x.rights.all fun d=>GO d.kind
def Cl(L:Bh)(x:An):List Us:=
 (((List.range L.farms.n).flatMap (E4 L.farms x.farms)++(List.range L.rots.n).flatMap (Gl L x.rots))++(List.range L.rights.n).flatMap (CY L.rights x.rights))++(List.range L.duties.n).flatMap (DM L.duties x.duties)
def E8(w:World)(L:Bh)(x:An):List (List Us × Bool):=Ds w L x++[(if Ci x then Cl L x else [],Ci x)]
def Ca(w:World)(L:Bh)(x:An):List Us × Bool:=BI (E8 w L x)
def TJ(N:NP)(w:World)(C D:Addr->Prop)(a:Array Value)(e:KK):Prop:=
 ∃b o cs,a=#[.pointer (some ⟨b,o,none⟩),.int .i64 e.2]∧w.rangeAt b o cs∧AP N w e.1 cs∧PV w C e.1 b o∧C ⟨b,o+1,none⟩∧C ⟨b,o+2,none⟩∧C ⟨b,o+3,none⟩∧D ⟨b,o+4,none⟩∧(e.1.op=0->C ⟨b,o+4,none⟩)
structure JW (N:Nat->Prop) (w:World) (C D:Addr->Prop) (Bu:Nat) (L:Bh) (x:An):Prop where
 ok:L.Ok
 heads:I9 L Bu w
 box:C ⟨Bu,0,none⟩
 src:∀j,19<=j->j<=25->C ⟨L.s,j,none⟩
 turns:∀i,i < L.rots.n->C (L.rots.at 23 i 22)
 river:∀i (h:i < x.farms.length),C (L.farms.at 12 i 3)∧w.cell? (L.farms.at 12 i 3)=some (.bool x.farms[i].river)
 kind:∀i (h:i < x.rights.length),C (L.rights.at 37 i 0)∧w.cell? (L.rights.at 37 i 0)=some (.int .i64 x.rights[i].kind)
 top:At (TJ N w C D) (BO L) (AL x)
 nfarms:L.farms.n=x.farms.length
 nrots:L.rots.n=x.rots.length
 nturns:∀i (h:i < x.rots.length),(A4 L i).n=x.rots[i].turns.length
 nrights:L.rights.n=x.rights.length
 nduties:L.duties.n=x.duties.length
 few:∀e∈AL x,0<=e.2∧e.2<=1000000
 short:(Cl L x).length<=1000000
def Ug(a:World)(C D:Addr->Prop)(W:World):Prop:=(∀p,C p->W.cell? p=a.cell? p)∧∀p,D p->∃z,W.cell? p=some (.int .i64 z)
theorem EH{N:NP}{w:World}{C D:Addr->Prop}{Bu:Nat}{L:Bh}{x:An}(h:JW N w C D Bu L x):(Ds w L x).length=(BO L).length:=by
 unfold Ds
 rw[List.length_zipWith,<-h.top.length];simp
end Go.Proofs.Ytghepahgkcigpaa
namespace Go.Proofs.Ytghepahgkcigpaa
open Go.RowKit
attribute [local go_sem] Oper.semAt_some
def JX(x:An):Bool:=decide (x.lets.length<=64)&&(decide (x.crops.length<=32)&&(decide (x.reaches.length<=64)&&(decide (x.farms.length<=600)&&(decide (x.rots.length<=64)&&(decide (x.rights.length<=256)&&decide (x.duties.length<=256))))))
def FU(l:List B7):Bool:=l.all fun d=>decide (d.turns.length<=64)
def EI(x:An):Bool:=(AL x).all fun e=>decide (AR e.1<=8)
def Ma(w:World)(ok:Bool)(e:Ending)(w':World):Prop:=Below w.heap.size w w'∧e=if ok then .returned (.tuple #[]) else .panicked [{v:=.iface 38 (.int .i64 2),recovered:=false}]
def LJ(Bs:Nat)(a:World)(p:NP)(k:Nat)(O:NP)(W:World):Prop:=(∀b,O b->Bs < b)∧Below (Bs+1) a W∧p k
theorem LJ.stays{Bs:Nat}{j:World}{p:NP}(m:j.heap.size=Bs+1):Dp (LJ Bs j p):=by
 intro k O W n W' d g f e c a i
 have hs:=d.2.1.size
 refine ⟨fun b hb=>(i b hb).elim (d.1 b) (fun h=>by omega),d.2.1.trans ⟨f,e,c,g,fun b hb=>a b (fun l=>?_) (by omega)⟩,d.2.2⟩
 have:=d.1 b l
 omega
def Ox(x:An)(k:Nat):Prop:=∀j (h:j < (AL x).length),j < k->AR (AL x)[j].1<=8
def Uz(N:NP)(s:Nat)(w:World)(x:An)(k b o:Nat):Prop:=∃(h:k < (AL x).length) (cs:LV),(b=s∨N b)∧w.rangeAt b o cs∧AP N w (AL x)[k].1 cs
theorem Li{B:Nat}{a w:World}(h:Below B a w){g:Nat}(b:B<=g)(o:Obj):Below B a (w.putObj g o):=
 h.trans ⟨rfl,rfl,rfl,by simp,fun k c=>World.putObj_heap_other (by omega)⟩
theorem Ih{B:Nat}{a w:World}(h:Below B a w){g:Nat}(b:B<=g)(row:Array Value):Below B a (w.setRow g row):=
 h.trans ⟨rfl,rfl,rfl,by simp[World.setRow],fun k c=>by simp[World.setRow,yO,show g≠k by omega]⟩
section
variable{N:NP}{w:World}
theorem Mb{e:Ex}{c:LV}(h:AP N w e c):∀v∈c,v.oneCell'=true:=by
 obtain ⟨a,cap,rfl,_⟩:=h.cells
 intro v b
 simp at b
 rcases b with rfl|rfl|rfl|rfl|rfl|rfl<;>rfl
theorem Ii{t:Av}{cs:LV}{d:B7}(h:Gg N w t cs d):∀v∈cs,v.oneCell'=true:=by
 obtain ⟨_,_,c0,c1,c2,rfl,c,g1,b,_⟩:=h
 intro v a
 simp only[Ah,yJ,yo,zl,xp] at a
 rcases a with rfl|(rfl|rfl)|rfl|h|h|h|rfl
 ·rfl
 ·rfl
 ·rfl
 ·rfl
 ·exact Mb c v h
 ·exact Mb g1 v h
 ·exact Mb b v h
 ·rfl
theorem Lj{t:Av}{cs:LV}{d:B7}(h:Gg N w t cs d)(_:cs.length=23):cs[22]?=some (.slice t.a t.n t.c):=by
 obtain ⟨_,_,c0,c1,c2,rfl,e,g1,b,_⟩:=h
 obtain ⟨_,_,rfl,_⟩:=e.cells
 obtain ⟨_,_,rfl,_⟩:=g1.cells
 obtain ⟨_,_,rfl,_⟩:=b.cells
 rfl
theorem Oy{t:Av}{cs:LV}{d:B7}(h:Gg N w t cs d):t.n=d.turns.length:=by
 obtain ⟨_,_,_,_,_,_,_,_,_,h,_⟩:=h
 exact h
end
def Tg(s:Nat)(F:Bool)(w:World)(a:Act)(w2:World):Prop:=w2=w∧∃u6 u7 u8 u9 K G a1 S L o b v e y T u a0 A p t N B x d R P D c X E m H i f J r k l U I Z g V Q h C M j z Y q O n W,a={tmps:=#[.pointer (some ⟨s,0,none⟩),undef,.bool F,undef,undef,undef,u6,u7,u8,u9,K,G,a1,S,L,o,b,v,e,y,T,u,a0,A,p,t,N,B,x,d,R,P,D,c,X,E,m,H,i,f,J,r,k,l,U,I,Z,g,V,Q,h,C,M,j,z,Y,q,O,n,W,undef,undef,undef,undef,undef,undef,undef,undef,undef,undef,undef,undef,undef,undef,undef,undef,undef,undef,undef,undef,undef,undef,undef,undef,undef,undef,undef,undef,undef],defers:=[]}
theorem J9{N:NP}{w:World}{L:Bh}{cs:LV}{x:An}(h:B8 N w L cs x)(hr:w.rangeAt L.s 0 cs)(hN:∀b,N b->b < w.heap.size)(hs:L.s < w.heap.size)(hd:∀e∈AL x,AR e.1<=1000000):
  Calls Try.prog 25 #[.pointer (some ⟨L.s,0,none⟩)] w (Ma w (JX x&&(FU x.rots&&EI x))):=by
 have HV:=yb h
 have ap:=yb hr
 have HN:=yb hN
 have HD:=yb hd
 have Y:=yb (JR (Bs:=w.heap.size) (h.same (fun b h=>h) (Dc hN ((yg _ _).alloc (ye _) (.cells #[pV L.s 0] 0)))) (A2 hr (((yg _ _).alloc (ye _) (.cells #[pV L.s 0] 0)).block _ hs)) (by
  have:(w.alloc (.cells #[pV L.s 0] 0)).heap[w.heap.size]?=some (.cells #[pV L.s 0] 0 (0,0)):=World.alloc_heap_new _ _
  simp only[World.cell?,this];simp))
 have M:w.cell? (aV L.s 19)=some L.lets.v:=(((yg w.heap.size w).alloc (ye _) (.cells #[pV L.s 0] 0)).cell (p:=(aV L.s 19)) hs).symm.trans Y.o.lets
 have Z:w.cell? (aV L.s 20)=some L.crops.v:=(((yg w.heap.size w).alloc (ye _) (.cells #[pV L.s 0] 0)).cell (p:=(aV L.s 20)) hs).symm.trans Y.o.crops
 have S:w.cell? (aV L.s 21)=some L.reaches.v:=(((yg w.heap.size w).alloc (ye _) (.cells #[pV L.s 0] 0)).cell (p:=(aV L.s 21)) hs).symm.trans Y.o.reaches
 have J:w.cell? (aV L.s 22)=some L.farms.v:=(((yg w.heap.size w).alloc (ye _) (.cells #[pV L.s 0] 0)).cell (p:=(aV L.s 22)) hs).symm.trans Y.o.farms
 have an:w.cell? (aV L.s 23)=some L.rots.v:=(((yg w.heap.size w).alloc (ye _) (.cells #[pV L.s 0] 0)).cell (p:=(aV L.s 23)) hs).symm.trans Y.o.rots
 have U:w.cell? (aV L.s 24)=some L.rights.v:=(((yg w.heap.size w).alloc (ye _) (.cells #[pV L.s 0] 0)).cell (p:=(aV L.s 24)) hs).symm.trans Y.o.rights
 have X:w.cell? (aV L.s 25)=some L.duties.v:=(((yg w.heap.size w).alloc (ye _) (.cells #[pV L.s 0] 0)).cell (p:=(aV L.s 25)) hs).symm.trans Y.o.duties
 unfold Av.v at M Z S J an U X
 have n1:=h.lets.1;have n2:=h.crops.1;have n3:=h.reaches.1;have n4:=h.farms.1;have n5:=h.rots.1;have n6:=h.rights.1;have n7:=h.duties.1
 have hF:JX x=(decide (L.lets.n<=64)&&(decide (L.crops.n<=32)&&(decide (L.reaches.n<=64)&&(decide (L.farms.n<=600)&&(decide (L.rots.n<=64)&&(decide (L.rights.n<=256)&&decide (L.duties.n<=256))))))):=by unfold JX;rw[n1,n2,n3,n4,n5,n6,n7]
 have HF:=yb hF
 have N5:=yb n5
 clear h hr hN hd Y n1 n2 n3 n4 n5 n6 n7 hF
 refine Cd (n:=10) Try.func25 rfl ?_
 simp only[Try.ntmps25,yB,yE,yI,Nat.reduceAdd,Nat.reduceSub,zJ,zK,zW,zQ,zj,z7]
 generalize ci:JX x=F at HF ⊢
 clear ci
 refine Ad (A6 (Code.wp_mono (Q:=Exit.then (Tg L.s F w) (fun _ _ _=>False)) ?_ ?_))
 rotate_left
 ·go_wp2
  all_goals
   first
   |(obtain rfl:F=false:=by rw[HF.o];simp only[Bool.and_eq_false_iff,xu];omega
     exact ⟨rfl,_,_,_,_,_,_,_,_,_,_,_,_,_,_,_,_,_,_,_,_,_,_,_,_,_,_,_,_,_,_,_,_,_,_,_,_,_,_,_,_,_,_,_,_,_,_,_,_,_,_,_,_,_,_,rfl⟩)
   |(obtain rfl:F=decide ((L.duties.n:Int)<=256):=by rw[HF.o,xJ];simp only[yt,yW];omega
     exact ⟨rfl,_,_,_,_,_,_,_,_,_,_,_,_,_,_,_,_,_,_,_,_,_,_,_,_,_,_,_,_,_,_,_,_,_,_,_,_,_,_,_,_,_,_,_,_,_,_,_,_,_,_,_,_,_,_,rfl⟩)
 rintro (_|id|l|_|ch|_) a' w' h
 rotate_left
 ·exact h.elim
 ·exact h.elim
 ·exact h.elim
 ·exact h.elim
 ·exact h.elim
 obtain ⟨rfl,u6,u7,u8,u9,cq,bp,cx,ba,cr,ay,av,ca,c6,co,bu,bk,bz,cb,az,cm,b8,b4,cn,aw,bt,ct,cd,cg,cv,bo,bj,b5,c7,cj,b7,b3,c9,bi,bb,bq,be,ck,bd,b9,ax,cc,bs,c8,bm,cw,cf,cp,bh,cu,rfl⟩:=h
 clear M Z S J U X
 refine Ad (A6 ?_)
 go_wp2
 go_loopw [2,65] (fun fv iv wr=>∃i:Nat,i<=L.rots.n∧iv=iV i∧fv=.bool (F&&FU (x.rots.take i))∧Hid (Below w'.heap.size w' wr)) (fun _ iv _=>L.rots.n - (intOf iv).toNat)
 case atStart=>exact ⟨0,yz _,rfl,by simp[FU],yb (yg _ _)⟩
 case round=>
  obtain ⟨i,hi,rfl,rfl,y⟩:=hrel
  by_cases bn:i < L.rots.n
  ·have ah:i < x.rots.length:=by rw[<-N5.o];exact bn
   obtain ⟨b,o,f,he,bw,r,A,B⟩:=HV.o.rots.2.2 i ah
   have A:=A2 A (y.o.block b (HN.o b bw))
   have P:=Ii B
   have a7:=Lj B r
   have a0:=Oy B
   have ht:FU (x.rots.take (i+1))=(FU (x.rots.take i)&&decide ((A4 L i).n<=64)):=by
    rw[yq ah]
    unfold FU
    rw[zh,a0]
    simp
   have HT:=yb ht
   have bg:(i:Int) < (L.rots.n:Int):=by omega
   have cz:L.rots.n<=140737488355328:=by have:=HV.o.rots.2.1;have:=N5.o;omega
   have aq:=yb A
   have V:=yb (yU P)
   have a8:Hid ((Try.prog.info? 64).map (·.size)=some f.length):=yb (by rw[r];kernel_rfl)
   have T:Hid ((Try.prog.info? 64).map (·.size)=some f.toArray.size):=yb (by rw[yB];exact a8.o)
   have K:=yb r
   rw[he] at*
   have d2:((wr.alloc (.cells #[.string ⟨#[]⟩,.string ⟨#[]⟩,iV 0,iV 0,iV 0,iV 0,iV 0,.string ⟨#[]⟩,iV 0,.slice none 0 0,iV 0,iV 0,iV 0,.string ⟨#[]⟩,iV 0,.slice none 0 0,iV 0,iV 0,iV 0,.string ⟨#[]⟩,iV 0,.slice none 0 0,.slice none 0 0] 64)).setRow wr.heap.size f.toArray).cell? (aV wr.heap.size 22)=some (.slice (A4 L i).a (A4 L i).n (A4 L i).c):=by
    have ce:(wr.alloc (.cells #[.string ⟨#[]⟩,.string ⟨#[]⟩,iV 0,iV 0,iV 0,iV 0,iV 0,.string ⟨#[]⟩,iV 0,.slice none 0 0,iV 0,iV 0,iV 0,.string ⟨#[]⟩,iV 0,.slice none 0 0,iV 0,iV 0,iV 0,.string ⟨#[]⟩,iV 0,.slice none 0 0,.slice none 0 0] 64)).heap[wr.heap.size]?=some (.cells #[.string ⟨#[]⟩,.string ⟨#[]⟩,iV 0,iV 0,iV 0,iV 0,iV 0,.string ⟨#[]⟩,iV 0,.slice none 0 0,iV 0,iV 0,iV 0,.string ⟨#[]⟩,iV 0,.slice none 0 0,iV 0,iV 0,iV 0,.string ⟨#[]⟩,iV 0,.slice none 0 0,.slice none 0 0] 64 (0,0)):=World.alloc_heap_new _ _
    simp only[World.cell?,World.setRow,yO,ce]
    simp[a7]
   clear A a0 ht r he P B
   generalize FU (x.rots.take i)=G at HT ⊢
   cases ad:(F&&G) with
   |false=>
    go_wp2_with (first|(refine yj rfl 64 _ rfl b (o+i*23) rfl f _ aq.o qL rfl a8.o ?_)|(refine yX rfl 64 _ _ rfl wr.heap.size f.toArray rfl rfl 64 _ (World.alloc_heap_new _ _) T.o (by simp[K.o]) V.o ?_))
    refine ⟨⟨i+1,by omega,by push_cast;rfl,by rw[HT.o];revert ad;cases F<;>cases G<;>simp<;>omega,yb (Ih (y.o.alloc y.o.size _) y.o.size _)⟩,by simp[intOf];omega⟩
   |true=>
    go_wp2_with (first|(refine yj rfl 64 _ rfl b (o+i*23) rfl f _ aq.o qL rfl a8.o ?_)|(refine yX rfl 64 _ _ rfl wr.heap.size f.toArray rfl rfl 64 _ (World.alloc_heap_new _ _) T.o (by simp[K.o]) V.o ?_))
    refine ⟨⟨i+1,by omega,by push_cast;rfl,by rw[HT.o];revert ad;cases F<;>cases G<;>simp<;>omega,yb (Ih (y.o.alloc y.o.size _) y.o.size _)⟩,by simp[intOf];omega⟩
  ·obtain rfl:i=L.rots.n:=by omega
   have bg:decide ((L.rots.n:Int) < (L.rots.n:Int))=false:=by simp
   have ar:x.rots.take L.rots.n=x.rots:=by rw[N5.o];exact yw
   rw[ar]
   clear ar
   go_wp2
   cases al:(F&&FU x.rots) with
   |false=>
    have g:(F&&(FU x.rots&&EI x))=false:=by rw[<-zc,al];rfl
    rw[g]
    clear g
    refine Ad (A6 ?_)
    go_wp2_with (first|(go_at_call 50;refine (Cs _ _).mono ?_;rintro e w2 ⟨rfl,rfl⟩))
    exact ⟨y.o,rfl⟩
   |true=>
    have g:(F&&(FU x.rots&&EI x))=EI x:=by rw[<-zc,al];rfl
    rw[g]
    clear g
    refine Ad (A6 ?_)
    go_wp2_with (first|(go_at_call 50;refine (CA _ _).mono ?_;rintro e w2 ⟨rfl,rfl⟩))
    refine Ad (A6 ?_)
    go_wp2_with (first|(go_at_call 67;refine (EG _ _).mono ?_;rintro e w2 ⟨rfl,rfl⟩))
    refine E5 ?_
    have HE:=yb (HY HV.o ap.o)
    have H:Below w'.heap.size w' (w2.alloc (.cells #[pV L.s 0] 52)):=y.o.alloc y.o.size _
    have cl:=yb H
    have R:(w2.alloc (.cells #[pV L.s 0] 52)).cell? (aV w2.heap.size 0)=some (pV L.s 0):=by
     have:(w2.alloc (.cells #[pV L.s 0] 52)).heap[w2.heap.size]?=some (.cells #[pV L.s 0] 52 (0,0)):=World.alloc_heap_new _ _
     simp only[World.cell?,this];simp
    have ae:(w2.alloc (.cells #[pV L.s 0] 52)).heap.size=w2.heap.size+1:=by simp
    have ac:=yb R
    have u:=yb ae
    clear R ae H
    have ag:∀W,Below (w2.heap.size+1) (w2.alloc (.cells #[pV L.s 0] 52)) W->Below w'.heap.size w' W:=fun W hW=>cl.o.trans (hW.mono (Nat.le_succ_of_le y.o.size))
    have m:=yb ag
    clear ag
    have am:Hid (w'.heap.size<=w2.heap.size):=yb y.o.size
    clear y
    generalize d0:w2.alloc (.cells #[pV L.s 0] 52)=W1 at*
    refine DD (n:=10) Try.func25 rfl (fun _ _=>rfl) (JS 9 (by omega) w2.heap.size L HV.o.ok) (fun a ha=>by
      obtain ⟨i,hi,rfl⟩:=zg.1 ha
      obtain ⟨b,o,c,h1,_⟩:=HE.o.get i hi (by rw[<-HE.o.length];exact hi)
      rw[h1];rfl)
     (LJ w2.heap.size W1 (Ox x)) (fun _ _ _=>False) (fun ch=>LJ w2.heap.size W1 (fun _=>ch=[{v:=.iface 38 (iV 2),recovered:=false}]∧EI x=false) 0)
     (fun k a=>(LJ w2.heap.size W1 fun k=>Ox x k∧∃b o lt,Uz N L.s w' x k b o∧a={tmps:=#[pV L.s 0,undef,.bool true,undef,u4,pV b o,u6,u7,u8,u9,cq,bp,cx,ba,cr,ay,av,ca,c6,co,bu,bk,bz,cb,az,cm,b8,b4,cn,aw,bt,ct,cd,cg,cv,bo,bj,b5,c7,cj,b7,b3,c9,bi,bb,bq,be,ck,bd,b9,ax,cc,bs,c8,bm,cw,cf,cp,bh,cu,pV L.s 0,pV L.s 0,pV L.s 23,.slice L.rots.a L.rots.n L.rots.c,iV L.rots.n,iV L.rots.n,.bool false,u67,u68,u69,u70,u71,u72,u73,u74,u75,u76,.bool true,.tuple #[],pV L.s 0,.func (.func 89) #[] #[pV w2.heap.size 0],pV b o,iV lt,undef,undef,undef,undef,undef,undef],defers:=[]}) k) ?_ (fun _ _ _ _ _ _ h=>h.elim) (fun _ _ O W O' W' h=>LJ.stays u.o 0 O W O' W' h) ?_ ?_ (fun _ _ _ h=>h.elim) (fun _ h=>by cases h) ?_ ?_ ?_ ?_ (fun _ _ _ _ _ _ h=>h.elim) ?_
    ·exact LJ.stays u.o
    ·exact fun a=>LJ.stays u.o
    ·rintro k O W ⟨hO,hb,hp⟩
     exact JR (HV.o.same (fun b h=>h) (Dc HN.o (m.o W hb))) (A2 ap.o ((m.o W hb).block _ hs)) ((hb.cell (p:=(aV w2.heap.size 0)) (xF _)).trans ac.o)
    ·exact ⟨fun _ h=>h.elim,yg _ _,fun j _ I=>absurd I (by omega)⟩
    ·intro k hk O W l I hO hl _
     obtain ⟨b,o,f,h1,h2,h3,h4⟩:=HE.o.get k hk (by rw[<-HE.o.length];exact hk)
     have C:k < (AL x).length:=by rw[<-HE.o.length];exact hk
     rw[h1]
     generalize (AL x)[k].2=lt
     have E:=yb I
     have HP:Hid (Uz N L.s w' x k b o):=yb ⟨C,f,h2,h3,h4⟩
     clear I hO hl h1 h2 h3 h4
     gi_wp2
     first
     |exact ⟨Bv.refl _ _,E.o.1,E.o.2.1,E.o.2.2,b,o,lt,HP.o,rfl⟩
     |(rename_i hK;exact hK _ _ ⟨Bv.refl _ _,E.o.1,E.o.2.1,E.o.2.2,b,o,lt,HP.o,rfl⟩)
     |(rename_i hK _;exact hK _ _ ⟨Bv.refl _ _,E.o.1,E.o.2.1,E.o.2.2,b,o,lt,HP.o,rfl⟩)
     |fail
    ·rintro k hk O W l a1 hl aa ab ⟨hO,hb,hd,b,o,lt,⟨C,f,h1,h2,h3⟩,rfl⟩
     obtain ⟨ea,cy,rfl,e1,e2,e3⟩:=h3.cells
     have ak:b < w'.heap.size:=by
      rcases h1 with rfl|h1
      ·exact hs
      ·exact HN.o b h1
     obtain ⟨c0,c1,c2,c3,c4,c5⟩:=Br (A2 h2 ((m.o W hb).block b ak))
     have hw:AP N W (AL x)[k].1 _:=h3.same (fun b h=>h) (Dc HN.o (m.o W hb))
     have t:=yb (PQ (AL x)[k].1 hw (fun b H=>yp (HN.o b H) (m.o W hb).size) (HD.o _ (yy C)))
     have HO:=yb hO
     have af:=yb ab
     have ai:=u.o
     have aj:Hid (w2.heap.size+1<=W.heap.size):=yb (by rw[<-ai];exact hb.size)
     clear ai
     have ao:=yb hb
     have bv:=yb hd
     have HK:=yb C
     have hX:Hid (∀d,d=AR (AL x)[k].1->(d<=8->Ox x (k+1))∧(8 < d->EI x=false)):=yb fun d d3=>by
      refine ⟨fun h j I d1=>?_,fun h=>?_⟩
      ·rcases zO j k with h9|h9
       ·exact bv.o j I h9
       ·obtain rfl:j=k:=by omega
        omega
      ·unfold EI
       rw[xr]
       exact ⟨_,yy HK.o,by simp;omega⟩
     clear ab hw hO hb hd hl aa h2 h3 e1 e2 e3 h1 ak
     by_cases h8:AR (AL x)[k].1<=8
     ·have HT:=yb ((hX.o _ rfl).1 h8)
      have z:decide ((AR (AL x)[k].1:Int)<=8)=true:=by simp;omega
      clear h8 hX
      generalize AR (AL x)[k].1=dd at t z
      gi_wp2_with fail
      refine ⟨trivial,zm (CallsIn.inRound l (z8.2 t.o)) ?_⟩
      rintro e w3 ⟨rfl,q⟩
      gi_wp2_with fail
      refine ⟨trivial,zm (CallsIn.inRound l (z8.2 (CA _ _))) ?_⟩
      rintro e w4 ⟨rfl,rfl⟩
      try gi_wp2_with fail
      exact ⟨⟨q.size,fun b hb=>q.block b (af.o b hb)⟩,HO.o,ao.o.trans (q.mono aj.o),HT.o⟩
     ·have HT:=yb ((hX.o _ rfl).2 (by omega))
      have z:decide ((AR (AL x)[k].1:Int)<=8)=false:=by simp;omega
      clear h8 hX
      generalize AR (AL x)[k].1=dd at t z
      gi_wp2_with fail
      refine ⟨trivial,zm (CallsIn.inRound l (z8.2 t.o)) ?_⟩
      rintro e w3 ⟨rfl,q⟩
      gi_wp2_with fail
      refine ⟨trivial,zm (CallsIn.inRound l (z8.2 (Cs _ _))) ?_⟩
      rintro e w4 ⟨rfl,rfl⟩
      try gi_wp2_with fail
      exact ⟨rfl,⟨q.size,fun b hb=>q.block b (af.o b hb)⟩,HO.o,ao.o.trans (q.mono aj.o),rfl,HT.o⟩
    ·rintro - D O W hD - I a2
     have a6:EI x=true:=by
      unfold EI
      rw[yL]
      intro e he
      obtain ⟨j,au,rfl⟩:=zg.1 he
      simp only[yW]
      exact I.2.2 j au (by rw[HE.o.length];exact au)
     rw[a6]
     exact ⟨by simp,.inl ⟨_,_,rfl,run_takeDeferred a2,⟨_,zf rfl _ _ _,Li (m.o W I.2.1) (by have:=u.o;have:=am.o;omega) _,rfl⟩⟩⟩
    ·rintro D ch O W hD - ⟨-,hb,rfl,hd⟩ a2
     rw[hd]
     exact ⟨by simp,.inl ⟨_,_,rfl,run_takeDeferred a2,⟨Li (m.o W hb) (by have:=u.o;have:=am.o;omega) _,rfl⟩⟩⟩
end Go.Proofs.Ytghepahgkcigpaa
namespace Go.Proofs.Ytghepahgkcigpaa
open Go.RowKit
theorem FY{W:World}{b o m i:Nat}{s:ByteArray}{z most:Int}{a:LB}(h0:W.cell? ⟨b,o,none⟩=some (.string s))(h1:W.cell? ⟨b,o+1,none⟩=some (.int .i64 z))(j:W.frozen? ⟨b,o+1,none⟩=false)(f:Cb W m a)(hs:s.size<=maxLen)(c:CO a s=some i)(hi:(i:Int) < most):
  Calls Try.prog 49 #[.pointer (some ⟨b,o,none⟩),.map (some m),.int .i64 most] W fun e w'=>e=.returned (.tuple #[])∧w'=W.setCell ⟨b,o+1,none⟩ (.int .i64 (i:Int)):=by
 have d:=f.look s hs
 simp only[Hv,c] at d
 have g:=yb c
 clear c f
 go_enter Try.func49,Try.ntmps49
 go_wp2_with (first|(go_at_call 50;refine (CA _ _).mono ?_;rintro e h ⟨rfl,rfl⟩))
 go_end0
 exact ⟨rfl,rfl⟩
theorem He{W:World}{b o m:Nat}{s:ByteArray}{most:Int}{c:LB}(h0:W.cell? ⟨b,o,none⟩=some (.string s))(g:Cb W m c)(hs:s.size<=maxLen)(f:∀i,CO c s=some i->¬ (i:Int) < most):
  Calls Try.prog 49 #[.pointer (some ⟨b,o,none⟩),.map (some m),.int .i64 most] W fun e w'=>e=.panicked (Ek 170)∧w'=W:=by
 have d:=g.look s hs
 cases a:CO c s with
 |none=>
  simp only[Hv,a] at d
  have k:=yb f;have h:=yb a
  clear f g a
  go_enter Try.func49,Try.ntmps49
  go_wp2_with (first|(go_at_call 50;refine (Cs _ _).mono ?_;rintro e j ⟨rfl,rfl⟩))
  exact ⟨rfl,rfl,rfl⟩
 |some i=>
  have hi:=f i a
  simp only[Hv,a] at d
  have h:=yb a
  clear f g a
  go_enter Try.func49,Try.ntmps49
  go_wp2_with (first|(go_at_call 50;refine (Cs _ _).mono ?_;rintro e j ⟨rfl,rfl⟩))
  exact ⟨rfl,rfl,rfl⟩
def Gz{α:Type}(B:Nat)(W:World)(t sz:Nat)(Q:LV->α->Prop)(h:Av)(l:List α):Prop:=
 h.n=l.length∧∀i (hi:i < l.length),∃g cs,h.a=some ⟨g,0,none⟩∧B<=g∧Ty W g t∧cs.length=sz∧W.rangeAt g (i*sz) cs∧Q cs l[i]
theorem Gz.of{α:Type}{B b:Nat}{W:World}{t sz:Nat}{Q:LV->α->Prop}{h:Av}{l:List α}(d:h.n=l.length)(e:B<=b)(c:∀i (hi:i < l.length),∃g cs,h.a=some ⟨g,0,none⟩∧b<=g∧Ty W g t∧cs.length=sz∧W.rangeAt g (i*sz) cs∧Q cs l[i]):Gz B W t sz Q h l:=
 ⟨d,fun i hi=>by
  obtain ⟨g,cs,h1,h2,h3⟩:=c i hi
  exact ⟨g,cs,h1,yr e h2,h3⟩⟩
theorem Gz.up{α:Type}{B:Nat}{W W':World}{t sz:Nat}{Q:LV->α->Prop}{h:Av}{l:List α}(a:Gz B W t sz Q h l)(hb:∀b,B<=b->b < W.heap.size->W'.heap[b]?=W.heap[b]?):Gz B W' t sz Q h l:=
 ⟨a.1,fun i hi=>by
  obtain ⟨g,cs,h1,h2,h3,h4,h5,h6⟩:=a.2 i hi
  exact ⟨g,cs,h1,h2,h3.same (hb g h2 h3.lt),h4,A2 h5 (hb g h2 h3.lt),h6⟩⟩
theorem Gz.upT{α:Type}{B:Nat}{W W':World}{t sz:Nat}{Q:LV->α->Prop}{h:Av}{l:List α}(a:Gz B W t sz Q h l)(hb:∀b,B<=b->Ty W b t->W'.heap[b]?=W.heap[b]?):Gz B W' t sz Q h l:=
 ⟨a.1,fun i hi=>by
  obtain ⟨g,cs,h1,h2,h3,h4,h5,h6⟩:=a.2 i hi
  exact ⟨g,cs,h1,h2,h3.same (hb g h2 h3),h4,A2 h5 (hb g h2 h3),h6⟩⟩
theorem Cm{w:World}{b o:Nat}{v:Value}{l:LV}(h:w.rangeAt b o (v::l)):w.cell? ⟨b,o,none⟩=some v∧w.rangeAt b (o+1) l:=
 ⟨h 0 v rfl,fun j u a=>by have:=h (j+1) u (by simpa using a);rw[show o+1+j=o+(j+1) by omega];exact this⟩
theorem Lo{w:World}{b o:Nat}{l m:LV}(h:w.rangeAt b o (l++m)):w.rangeAt b o l∧w.rangeAt b (o+l.length) m:=
 ⟨fun j u a=>h j u (by rw[zx (yD.1 a).1];exact a),fun j u a=>by
  have:=h (l.length+j) u (by rw[yS (by omega),xH];exact a)
  rw[show o+l.length+j=o+(l.length+j) by omega];exact this⟩
theorem Cc{w:World}{b o:Nat}{c l:LV}(hc:c.length=6)(h:w.rangeAt b o (c++l)):w.rangeAt b o c∧w.rangeAt b (o+6) l:=by
 have:=Lo h
 rw[hc] at this;exact this
theorem DN{w:World}{b o:Nat}{r:Rf}{l:LV}(hs:r.name.size<=maxLen)(to:Int)(h:w.rangeAt b o (Ah r++l)):RV w to r b o∧w.rangeAt b (o+2) l:=by
 obtain ⟨h1,h2⟩:=Lo h
 exact ⟨⟨hs,h1 0 _ rfl,h1 1 _ rfl⟩,h2⟩
section
variable{N N':NP}{w W:World}{B:Nat}{h:Av}
theorem D9(hb:∀b,N b->W.heap[b]?=w.heap[b]?){e:Ex}{c:LV}{b o:Nat}(lt:Int)(a:AP N w e c)(d:W.rangeAt b o c):EV N W lt e b o:=⟨c,d,a.same (fun _ h=>h) hb⟩
theorem Gn{α:Type}{t sz:Nat}{Q:LV->α->Prop}{P:Nat->Nat->Nat->α->Prop}{l:List α}(b:Gz B W t sz Q h l)(hl:l.length<=100000)(hN:∀g,B<=g->N' g)(c:∀i (_:i < l.length) g cs,h.a=some ⟨g,0,none⟩->W.rangeAt g (i*sz) cs->Q cs l[i]->P i g (i*sz) l[i]):E3 N' W t sz P h l:=
 ⟨b.1,by omega,fun i hi=>by
  obtain ⟨g,cs,h1,h2,h3,h4,h5,h6⟩:=b.2 i hi
  exact ⟨g,h1,hN g h2,h3,c i hi g cs h1 h5 h6⟩⟩
variable(hb:∀b,N b->W.heap[b]?=w.heap[b]?)
include hb
theorem Q8(i g o:Nat)(cs:LV)(d:Dx)(b:W.rangeAt g o cs)(h:FP N w cs d):TI (EV N W) W i g o d:=by
 obtain ⟨h1,c,rfl,h2⟩:=h
 obtain ⟨a,r1⟩:=Cm b
 exact ⟨⟨h1,a⟩,D9 hb _ h2 r1⟩
theorem OC(i g o:Nat)(cs:LV)(d:BY)(b:W.rangeAt g o cs)(h:Dq N w cs d):T1 (EV N W) W i g o d:=by
 obtain ⟨h1,c,rfl,h2⟩:=h
 obtain ⟨a,r1⟩:=Cm b
 exact ⟨⟨h1,a⟩,D9 hb _ h2 r1⟩
theorem Ng(i g o:Nat)(cs:LV)(d:Ax)(m:W.rangeAt g o cs)(h:CG N w cs d):QU (EV N W) (RV W) W i g o d:=by
 obtain ⟨h1,h2,c0,c1,c2,B,D,z,C,A,rfl,c,g1,k,a,j,b,e,q⟩:=h
 obtain ⟨x,r⟩:=Cm m
 obtain ⟨f,r⟩:=DN h2 (if i=0 then 0 else 6) r
 obtain ⟨v,r⟩:=Cc c.len r
 obtain ⟨u,r⟩:=Cc g1.len r
 obtain ⟨n,r⟩:=Cc k.len r
 obtain ⟨p,r⟩:=Cc a.len r
 obtain ⟨l,r⟩:=Cc j.len r
 obtain ⟨s,r⟩:=Cc b.len r
 obtain ⟨y,t⟩:=Cc e.len r
 exact ⟨⟨h1,x⟩,f,D9 hb _ c v,D9 hb _ g1 u,D9 hb _ k n,D9 hb _ a p,D9 hb _ j l,D9 hb _ b s,D9 hb _ e y,D9 hb _ q t⟩
theorem OD(i g o:Nat)(cs:LV)(d:BL)(b:W.rangeAt g o cs)(h:DE N w cs d):T2 (EV N W) (RV W) W i g o d:=by
 obtain ⟨h1,h2,h3,c0,rfl,a⟩:=h
 obtain ⟨e,r⟩:=Cm b
 obtain ⟨f,r⟩:=DN h2 4 r
 obtain ⟨v,r⟩:=Cm r
 obtain ⟨c,r⟩:=Cc a.len r
 obtain ⟨j,_⟩:=DN (l:=[]) h3 (if d.river then 0 else 3) (by rw[zn];exact r)
 exact ⟨⟨h1,e⟩,f,v,D9 hb _ a c,j⟩
theorem OE(i g o:Nat)(cs:LV)(d:Bt)(a:W.rangeAt g o cs)(h:Dm N w cs d):T3 (EV N W) (RV W) i g o d:=by
 obtain ⟨h1,c0,rfl,b⟩:=h
 obtain ⟨f,r⟩:=DN h1 5 a
 exact ⟨f,D9 hb _ b r⟩
theorem Nh(i g o:Nat)(cs:LV)(d:AG)(j:W.rangeAt g o cs)(h:CH N w cs d):QV (EV N W) (RV W) W i g o d:=by
 obtain ⟨h1,h2,h3,c0,c1,c2,u,x,rfl,b,g1,c,a,n⟩:=h
 obtain ⟨k,r⟩:=Cm j
 obtain ⟨s,r⟩:=Cm r
 obtain ⟨f,r⟩:=DN h2 5 r
 obtain ⟨t,r⟩:=DN h3 (if d.kind=1 then 0 else 4) r
 obtain ⟨v,r⟩:=Cm r
 obtain ⟨q,r⟩:=Cc b.len r
 obtain ⟨p,r⟩:=Cc g1.len r
 obtain ⟨l,r⟩:=Cc c.len r
 obtain ⟨m,e⟩:=Cc a.len r
 exact ⟨k,⟨h1,s⟩,f,t,v,D9 hb _ b q,D9 hb _ g1 p,D9 hb _ c l,D9 hb _ a m,D9 hb _ n e⟩
theorem OF(i g o:Nat)(cs:LV)(d:Ce)(b:W.rangeAt g o cs)(h:DF N w cs d):T4 (EV N W) (RV W) W i g o d:=by
 obtain ⟨h1,h2,h3,c0,rfl,c⟩:=h
 obtain ⟨a,r⟩:=Cm b
 obtain ⟨f,r⟩:=DN h2 5 r
 obtain ⟨e,r⟩:=DN h3 4 r
 exact ⟨⟨h1,a⟩,f,e,D9 hb _ c r⟩
end
structure I1 (x:An):Prop where
 lets:x.lets.length<=100000
 crops:x.crops.length<=100000
 reaches:x.reaches.length<=100000
 farms:x.farms.length<=100000
 rots:x.rots.length<=100000
 rights:x.rights.length<=100000
 duties:x.duties.length<=100000
 turns:∀d∈x.rots,d.turns.length<=100000
 exprs:∀e∈AL x,Ba e.1
theorem R9{N N':NP}{w U W:World}{B:Nat}{L L':Bh}{l:List B7}(hb:∀b,N b->W.heap[b]?=w.heap[b]?)(z:Gz B U 64 23 (fun cs (d:B7 × Nat)=>Gg N w (A4 L d.2) cs d.1) L'.rots l.zipIdx)(hN:∀g,B<=g->N' g)(hl:l.length<=100000)
 (p:∀d∈l,d.turns.length<=100000)(o:∀g,L'.rots.a=some ⟨g,0,none⟩->Ty U g 64->Ty W g 64)(hc:∀g,L'.rots.a=some ⟨g,0,none⟩->∀i q,q < 22->W.cell? ⟨g,i*23+q,none⟩=U.cell? ⟨g,i*23+q,none⟩)
 (J:∀i (_:i < l.length) g,L'.rots.a=some ⟨g,0,none⟩->W.cell? ⟨g,i*23+22,none⟩=some (A4 L' i).v)(H:∀i (h:i < l.length),Gz B W 66 8 (Dm N w) (A4 L' i) l[i].turns):
  E3 N' W 64 23 (Tf N' (EV N W) (RV W) W (A4 L')) L'.rots l:=by
 refine ⟨by have:=z.1;rwa [zA] at this,by omega,fun i hi=>?_⟩
 obtain ⟨g,cs,n,F,K,Q,D,y⟩:=z.2 i (by rw[zA];exact hi)
 rw[xv] at y
 simp only[yA] at y
 refine ⟨g,n,hN g F,o g n K,?_⟩
 obtain ⟨h1,h2,c0,c1,c2,rfl,s,g1,C,_⟩:=y
 have x:W.rangeAt g (i*23) (.string l[i].name::(Ah l[i].on++(iV l[i].rank::(c0++(c1++c2))))):=fun j u A=>by
  have m:=(yD.1 A).1
  have c:(Value.string l[i].name::(Ah l[i].on++(iV l[i].rank::(c0++(c1++c2))))).length=22:=by simp[A7,s.len,g1.len,C.len]
  rw[c] at m
  rw[hc g n i j m]
  refine D j u ?_
  have e:(Value.string l[i].name::(Ah l[i].on++(iV l[i].rank::(c0++(c1++(c2++[(A4 L i).v]))))))=(Value.string l[i].name::(Ah l[i].on++(iV l[i].rank::(c0++(c1++c2)))))++[(A4 L i).v]:=by simp
  rw[e,zx (by omega)]
  exact A
 obtain ⟨O,r⟩:=Cm x
 obtain ⟨f,r⟩:=DN h2 4 r
 obtain ⟨v,r⟩:=Cm r
 obtain ⟨M,r⟩:=Cc s.len r
 obtain ⟨I,E⟩:=Cc g1.len r
 exact ⟨⟨h1,O⟩,f,v,D9 hb _ s M,D9 hb _ g1 I,D9 hb _ C E,J i hi g n,Gn (H i hi) (p _ (yy hi)) hN (fun k P g cs _ t G=>OE hb k g (k*8) cs _ t G)⟩
theorem OG{N N':NP}{w W:World}{B:Nat}{L:Bh}{x:An}{f e k:Option Addr}{h p1 p2:Nat}(hb:∀b,N b->W.heap[b]?=w.heap[b]?)(hN:∀g,B<=g->N' g)(hs:I1 x)
 (hc:W.heap[L.s]?=some (.cells #[.string x.name,.int .i64 x.season.op,.int .i64 x.season.n,.int .i64 x.season.u,.string x.season.rn,.int .i64 x.season.ri,.slice f x.season.args.length h,.int .i64 x.cap.op,.int .i64 x.cap.n,.int .i64 x.cap.u,.string x.cap.rn,.int .i64 x.cap.ri,.slice e x.cap.args.length p1,.int .i64 x.start.op,.int .i64 x.start.n,.int .i64 x.start.u,.string x.start.rn,.int .i64 x.start.ri,.slice k x.start.args.length p2,L.lets.v,L.crops.v,L.reaches.v,L.farms.v,L.rots.v,L.rights.v,L.duties.v] 35 (0,0)))(l:x.name.size<=maxLen)(h0:AP N w x.season [.int .i64 x.season.op,.int .i64 x.season.n,.int .i64 x.season.u,.string x.season.rn,.int .i64 x.season.ri,.slice f x.season.args.length h])(h1:AP N w x.cap [.int .i64 x.cap.op,.int .i64 x.cap.n,.int .i64 x.cap.u,.string x.cap.rn,.int .i64 x.cap.ri,.slice e x.cap.args.length p1])(h2:AP N w x.start [.int .i64 x.start.op,.int .i64 x.start.n,.int .i64 x.start.u,.string x.start.rn,.int .i64 x.start.ri,.slice k x.start.args.length p2])
 (m:Gz B W 55 7 (FP N w) L.lets x.lets)(rc:Gz B W 57 7 (Dq N w) L.crops x.crops)(t:Gz B W 51 51 (CG N w) L.reaches x.reaches)(q:Gz B W 59 12 (DE N w) L.farms x.farms)
 (p:E3 N' W 64 23 (Tf N' (EV N W) (RV W) W (A4 L)) L.rots x.rots)(ri:Gz B W 68 37 (CH N w) L.rights x.rights)(r:Gz B W 70 11 (DF N w) L.duties x.duties):Ch N' (EV N W) (RV W) W L x:=by
 have a:∀j v,#[.string x.name,iV x.season.op,iV x.season.n,iV x.season.u,.string x.season.rn,iV x.season.ri,.slice f x.season.args.length h,iV x.cap.op,iV x.cap.n,iV x.cap.u,.string x.cap.rn,iV x.cap.ri,.slice e x.cap.args.length p1,iV x.start.op,iV x.start.n,iV x.start.u,.string x.start.rn,iV x.start.ri,.slice k x.start.args.length p2,L.lets.v,L.crops.v,L.reaches.v,L.farms.v,L.rots.v,L.rights.v,L.duties.v][j]?=some v->W.cell? (aV L.s j)=some v:=fun j v o=>by simp only[World.cell?,hc];simpa using o
 refine ⟨⟨_,hc⟩,⟨l,a 0 _ rfl⟩,?_,?_,?_,a 19 _ rfl,a 20 _ rfl,a 21 _ rfl,a 22 _ rfl,a 23 _ rfl,a 24 _ rfl,a 25 _ rfl,?_,?_,?_,?_,p,?_,?_⟩
 ·exact D9 hb 0 h0 (A5 (a 1 _ rfl) (A5 (a 2 _ rfl) (A5 (a 3 _ rfl) (A5 (a 4 _ rfl) (A5 (a 5 _ rfl) (C9 (a 6 _ rfl)))))))
 ·exact D9 hb 0 h1 (A5 (a 7 _ rfl) (A5 (a 8 _ rfl) (A5 (a 9 _ rfl) (A5 (a 10 _ rfl) (A5 (a 11 _ rfl) (C9 (a 12 _ rfl)))))))
 ·exact D9 hb 0 h2 (A5 (a 13 _ rfl) (A5 (a 14 _ rfl) (A5 (a 15 _ rfl) (A5 (a 16 _ rfl) (A5 (a 17 _ rfl) (C9 (a 18 _ rfl)))))))
 ·exact Gn m hs.lets hN (fun i _ g cs _ c d=>Q8 hb i g _ cs _ c d)
 ·exact Gn rc hs.crops hN (fun i _ g cs _ c d=>OC hb i g _ cs _ c d)
 ·exact Gn t hs.reaches hN (fun i _ g cs _ c d=>Ng hb i g _ cs _ c d)
 ·exact Gn q hs.farms hN (fun i _ g cs _ c d=>OD hb i g _ cs _ c d)
 ·exact Gn ri hs.rights hN (fun i _ g cs _ c d=>Nh hb i g _ cs _ c d)
 ·exact Gn r hs.duties hN (fun i _ g cs _ c d=>OF hb i g _ cs _ c d)
theorem CS{α:Type}{f:Nat->α->α}(h:∀i a,f i a=a)(l:List α):l.mapIdx f=l:=by
 refine zM (by simp) fun i h1 h2=>?_
 rw[zZ];exact h _ _
theorem TK(x:An):x.mp (fun _ e=>e) (fun _ r=>r)=x:=by
 unfold An.mp
 have h1:=CS (f:=Dx.mp fun _ e=>e) (fun _ _=>rfl) x.lets
 have h2:=CS (f:=BY.mp fun _ e=>e) (fun _ _=>rfl) x.crops
 have h3:=CS (f:=Ax.mp (fun _ e=>e) fun _ r=>r) (fun _ _=>rfl) x.reaches
 have h4:=CS (f:=BL.mp (fun _ e=>e) fun _ r=>r) (fun _ _=>rfl) x.farms
 have h5:=CS (f:=B7.mp (fun _ e=>e) fun _ r=>r) (fun _ d=>by
  unfold B7.mp
  rw[CS (f:=Bt.mp (fun _ e=>e) fun _ r=>r) (fun _ _=>rfl) d.turns]) x.rots
 have h6:=CS (f:=AG.mp (fun _ e=>e) fun _ r=>r) (fun _ _=>rfl) x.rights
 have a:=CS (f:=Ce.mp (fun _ e=>e) fun _ r=>r) (fun _ _=>rfl) x.duties
 rw[h1,h2,h3,h4,h5,h6,a]
section
variable{N:NP}{E E':Int->Ex->Nat->Nat->Prop}{R R':Int->Rf->Nat->Nat->Prop}{w w':World}{L:Bh}{x:An}
theorem Ch.imp(h:Ch N E R w L x)(i:∀b t,(N b∨b=L.s)->Ty w b t->Ty w' b t)(a:∀b o,(N b∨b=L.s)->MY w b o->w'.cell? ⟨b,o,none⟩=w.cell? ⟨b,o,none⟩)
 (c:∀lt e b o,(N b∨b=L.s)->Gj w b o->E lt e b o->E' lt e b o)(d:∀to r b o,(N b∨b=L.s)->Om w b o->R to r b o->R' to r b o):Ch N E' R' w' L x:=by
 have:=h.map (f:=fun _ e=>e) (g:=fun _ r=>r) i a c d
 rwa [TK] at this
theorem Ac{w w':World}{b o:Nat}(h:w'.heap[b]?=w.heap[b]?):w'.cell? ⟨b,o,none⟩=w.cell? ⟨b,o,none⟩:=by
 unfold World.cell?;rw[h]
theorem Gj.lt{b o:Nat}(h:Gj w b o):b < w.heap.size:=by obtain ⟨t,h,_⟩:=h;exact h.lt
theorem Om.lt{b o:Nat}(h:Om w b o):b < w.heap.size:=by obtain ⟨t,h,_⟩:=h;exact h.lt
theorem MY.lt{b o:Nat}(h:MY w b o):b < w.heap.size:=by obtain ⟨t,h,_⟩:=h;exact h.lt
theorem Ch.up{M:NP}(h:Ch N (EV M w) (RV w) w L x)(hM:∀b,M b->b < w.heap.size)(hb:Below w.heap.size w w'):Ch N (EV M w') (RV w') w' L x:=by
 refine h.imp (fun b t _ g=>g.same (hb.block b g.lt)) (fun b o _ a=>Ac (hb.block b a.lt)) (fun lt e b o _ a i=>?_) (fun to r b o _ a d=>?_)
 ·obtain ⟨c,h1,h2⟩:=i
  exact ⟨c,A2 h1 (hb.block b a.lt),h2.same (fun _ h=>h) (fun b f=>hb.block b (hM b f))⟩
 ·exact ⟨d.1,(Ac (hb.block b a.lt)).trans d.2.1,(Ac (hb.block b a.lt)).trans d.2.2⟩
end
theorem At.split{α β:Type}{R:α->β->Prop}:∀ {l:List α} {m:List β} {l':List α} {a:List β},l.length=m.length->At R (l++l') (m++a)->At R l m∧At R l' a
 |[],[],_,_,_,h=>⟨trivial,h⟩
 |_::_,_::_,_,_,hl,h=>by
  obtain ⟨h1,h2⟩:=At.split (by simpa using hl) h.2
  exact ⟨⟨h.1,h1⟩,h2⟩
 |[],_::_,_,_,hl,_=>by simp at hl
 |_::_,[],_,_,hl,_=>by simp at hl
theorem Hw{α β γ:Type}{R:α->β->Prop}(f:Nat->List α)(g:Nat->γ->List β):∀(l:List γ) (k:Nat),(∀i (h:i < l.length),(f (k+i)).length=(g (k+i) l[i]).length)->
  At R ((List.range' k l.length).flatMap f) ((l.zipIdx k).flatMap fun p=>g p.2 p.1)->∀i (h:i < l.length),At R (f (k+i)) (g (k+i) l[i])
 |[],_,_,_,i,h=>by simp at h
 |x::r,k,hl,hA,i,h=>by
  rw[yE,List.range'_succ,zp,List.zipIdx_cons,zp] at hA
  obtain ⟨h1,h2⟩:=At.split (hl 0 (by simp)) hA
  cases i with
  |zero=>exact h1
  |succ i=>
   have:=Hw f g r (k+1) (fun i hi=>by have:=hl (i+1) (by simpa using hi);rw[show k+1+i=k+(i+1) by omega];simpa using this) h2 i (by simpa using h)
   rw[show k+1+i=k+(i+1) by omega] at this
   simpa using this
theorem BR{α β γ:Type}{R:α->β->Prop}(f:Nat->List α)(g:Nat->γ->List β)(l:List γ)(n:Nat)(b:n=l.length)(hl:∀i (h:i < l.length),(f i).length=(g i l[i]).length)(a:At R ((List.range n).flatMap f) (l.zipIdx.flatMap fun p=>g p.2 p.1)):∀i (h:i < l.length),At R (f i) (g i l[i]):=by
 subst b
 rw[List.range_eq_range'] at a
 intro i h
 have:=Hw f g l 0 (fun i hi=>by rw[yA];exact hl i hi) a i h
 rwa [yA] at this
theorem F5{α β γ:Type}(f:Nat->List α)(g:Nat->γ->List β)(l:List γ)(n:Nat)(c:n=l.length)(hl:∀i (h:i < l.length),(f i).length=(g i l[i]).length):((List.range n).flatMap f).length=(l.zipIdx.flatMap fun p=>g p.2 p.1).length:=
 At.length (R:=fun _ _=>True) (B9 f g l n c (fun i h=>by
  have:∀(a:List α) (b:List β),a.length=b.length->At (fun _ _=>True) a b:=by
   intro a
   induction a with
   |nil=>intro b hb;cases b with
    |nil=>trivial
    |cons=>simp at hb
   |cons x r ih=>intro b hb;cases b with
    |nil=>simp at hb
    |cons y s=>exact ⟨trivial,ih s (by simpa using hb)⟩
  exact this _ _ (hl i h)))
def Ra(E:Int->Ex->Nat->Nat->Prop)(a:Array Value)(e:KK):Prop:=∃b o,a=#[.pointer (some ⟨b,o,none⟩),.int .i64 e.2]∧E e.2 e.1 b o
section
variable{N:NP}{E E':Int->Ex->Nat->Nat->Prop}{R:Int->Rf->Nat->Nat->Prop}{w:World}
theorem BM{h:Av}{g sz i off:Nat}{e:Ex}{lt:Int}(c:h.a=some ⟨g,0,none⟩)(d:Ra E' #[h.ptr sz i off,.int .i64 lt] (e,lt)):E' lt e g (i*sz+off):=by
 obtain ⟨b,o,h1,h2⟩:=d
 unfold Av.ptr at h1
 rw[AU c,yA] at h1
 simp only[qd,xz,xG,yV,qh,and_true] at h1
 obtain ⟨rfl,rfl⟩:=h1
 exact h2
theorem Kd{s off b o:Nat}{lt:Int}{e:Ex}(h1:(#[.pointer (some ⟨s,off,none⟩),.int .i64 lt]:Array Value)=#[.pointer (some ⟨b,o,none⟩),.int .i64 lt])(h2:E' lt e b o):E' lt e s off:=by
 simp only[qd,xz,xG,yV,qh,and_true] at h1
 obtain ⟨rfl,rfl⟩:=h1
 exact h2
theorem Ch.told{L:Bh}{x:An}(h:Ch N E R w L x)(c:At (Ra E') (BO L) (AL x)):Ch N E' R w L x:=by
 unfold BO AL at c
 obtain ⟨I,c⟩:=At.split (l:=Aq (Ak L.s)) (m:=[(x.season,(0:Int)),(x.cap,0),(x.start,0)]) rfl c
 obtain ⟨K,c⟩:=At.split (F5 _ (fun i (d:Dx)=> [(d.value,1+(i:Int))]) x.lets _ h.lets.1 (fun _ _=>rfl)) c
 obtain ⟨G,c⟩:=At.split (F5 _ (fun i (d:BY)=> [(d.need,(0:Int))]) x.crops _ h.crops.1 (fun _ _=>rfl)) c
 obtain ⟨B,c⟩:=At.split (F5 _ (fun i (d:Ax)=> [(d.delay,(0:Int)),(d.cap,0),(d.bank,0),(d.siphon,0),(d.evap0,0),(d.evap1,0),(d.seep0,0),(d.seep1,0)]) x.reaches _ h.reaches.1 (fun _ _=>rfl)) c
 obtain ⟨T,c⟩:=At.split (F5 _ (fun i (d:BL)=> [(d.area,(0:Int))]) x.farms _ h.farms.1 (fun _ _=>rfl)) c
 have t:∀i (hi:i < x.rots.length),(Aq (E2 L.rots i)++BJ (A4 L i) (A4 L i).n).length=([(x.rots[i].flow,(0:Int)),(x.rots[i].frm,0),(x.rots[i].to,0)]++DL x.rots[i].turns).length:=fun i hi=>by
  obtain ⟨g,g1,a,ty,_,_,_,_,_,_,_,o⟩:=h.rots.2.2 i hi
  rw[ym,ym]
  congr 1
  exact F5 _ (fun k (d:Bt)=> [(d.len,(0:Int))]) x.rots[i].turns _ o.1 (fun _ _=>rfl)
 obtain ⟨z,c⟩:=At.split (F5 _ (fun i (d:B7)=> [(d.flow,(0:Int)),(d.frm,0),(d.to,0)]++DL d.turns) x.rots _ h.rots.1 t) c
 obtain ⟨D,M⟩:=At.split (F5 _ (fun i (d:AG)=> [(d.flow,(0:Int)),(d.frm,0),(d.to,0),(d.every,0),(d.len,0)]) x.rights _ h.rights.1 (fun _ _=>rfl)) c
 have B1:=BR _ (fun i (d:Dx)=> [(d.value,1+(i:Int))]) x.lets _ h.lets.1 (fun _ _=>rfl) K
 have B2:=BR _ (fun i (d:BY)=> [(d.need,(0:Int))]) x.crops _ h.crops.1 (fun _ _=>rfl) G
 have B3:=BR _ (fun i (d:Ax)=> [(d.delay,(0:Int)),(d.cap,0),(d.bank,0),(d.siphon,0),(d.evap0,0),(d.evap1,0),(d.seep0,0),(d.seep1,0)]) x.reaches _ h.reaches.1 (fun _ _=>rfl) B
 have B4:=BR _ (fun i (d:BL)=> [(d.area,(0:Int))]) x.farms _ h.farms.1 (fun _ _=>rfl) T
 have B5:=BR _ (fun i (d:B7)=> [(d.flow,(0:Int)),(d.frm,0),(d.to,0)]++DL d.turns) x.rots _ h.rots.1 t z
 have Q:=BR _ (fun i (d:AG)=> [(d.flow,(0:Int)),(d.frm,0),(d.to,0),(d.every,0),(d.len,0)]) x.rights _ h.rights.1 (fun _ _=>rfl) D
 have J:=BR _ (fun i (d:Ce)=> [(d.due,(0:Int))]) x.duties _ h.duties.1 (fun _ _=>rfl) M
 obtain ⟨⟨b0,W,H,U⟩,⟨b1,o1,t1,S⟩,⟨b2,o2,t2,F⟩,_⟩:=I
 refine ⟨h.ty,h.name,Kd H U,Kd t1 S,Kd t2 F,h.hlets,h.hcrops,h.hreaches,h.hfarms,h.hrots,h.hrights,h.hduties,⟨h.lets.1,h.lets.2.1,fun i hi=>?_⟩,⟨h.crops.1,h.crops.2.1,fun i hi=>?_⟩,⟨h.reaches.1,h.reaches.2.1,fun i hi=>?_⟩,⟨h.farms.1,h.farms.2.1,fun i hi=>?_⟩,⟨h.rots.1,h.rots.2.1,fun i hi=>?_⟩,⟨h.rights.1,h.rights.2.1,fun i hi=>?_⟩,⟨h.duties.1,h.duties.2.1,fun i hi=>?_⟩⟩
 ·obtain ⟨g,g1,a,ty,b,_⟩:=h.lets.2.2 i hi
  exact ⟨g,g1,a,ty,b,BM g1 (B1 i hi).1⟩
 ·obtain ⟨g,g1,a,ty,b,_⟩:=h.crops.2.2 i hi
  exact ⟨g,g1,a,ty,b,BM g1 (B2 i hi).1⟩
 ·obtain ⟨g,g1,a,ty,b,e,_⟩:=h.reaches.2.2 i hi
  obtain ⟨j,p,r,y,v,A,V,O,_⟩:=B3 i hi
  exact ⟨g,g1,a,ty,b,e,BM g1 j,BM g1 p,BM g1 r,BM g1 y,BM g1 v,BM g1 A,BM g1 V,BM g1 O⟩
 ·obtain ⟨g,g1,a,ty,b,e,f,_,q⟩:=h.farms.2.2 i hi
  exact ⟨g,g1,a,ty,b,e,f,BM g1 (B4 i hi).1,q⟩
 ·obtain ⟨g,g1,a,ty,b,e,f,_,_,_,q,o⟩:=h.rots.2.2 i hi
  obtain ⟨j,u⟩:=At.split (l:=Aq (E2 L.rots i)) (m:=[(x.rots[i].flow,(0:Int)),(x.rots[i].frm,0),(x.rots[i].to,0)]) rfl (B5 i hi)
  obtain ⟨j,p,r,_⟩:=j
  have C:=BR _ (fun k (d:Bt)=> [(d.len,(0:Int))]) x.rots[i].turns _ o.1 (fun _ _=>rfl) u
  refine ⟨g,g1,a,ty,b,e,f,BM g1 j,BM g1 p,BM g1 r,q,o.1,o.2.1,fun k u=>?_⟩
  obtain ⟨g,g1,a,ty,b,_⟩:=o.2.2 k u
  exact ⟨g,g1,a,ty,b,BM g1 (C k u).1⟩
 ·obtain ⟨g,g1,a,ty,b,e,f,q,P,_⟩:=h.rights.2.2 i hi
  obtain ⟨j,p,r,y,v,_⟩:=Q i hi
  exact ⟨g,g1,a,ty,b,e,f,q,P,BM g1 j,BM g1 p,BM g1 r,BM g1 y,BM g1 v⟩
 ·obtain ⟨g,g1,a,ty,b,e,f,_⟩:=h.duties.2.2 i hi
  exact ⟨g,g1,a,ty,b,e,f,BM g1 (J i hi).1⟩
end
def FZ(L:Bh)(k b o:Nat)(lt:Int):Prop:=(BO L)[k]?=some #[.pointer (some ⟨b,o,none⟩),.int .i64 lt]
structure Ni (N:Nat->Prop) (W4:World) (L:Bh) (x:An):Prop where
 epos:∀j b o lt,FZ L j b o lt->Gj W4 b o
 old:∀b,N b->b < W4.heap.size∧∀j o lt,¬ FZ L j b o lt
 val:∀j b o lt,FZ L j b o lt->∀h:j < (AL x).length,∃c,W4.rangeAt b o c∧AP N W4 (AL x)[j].1 c
structure Nj (W4:World) (L:Bh) (x:An) (k:Nat) (O:Nat->Prop) (W:World):Prop where
 os:W.os=W4.os
 tape:W.tape=W4.tape
 output:W.output=W4.output
 size:W4.heap.size<=W.heap.size
 own:∀b,O b->W4.heap.size<=b
 cells:∀b q,b < W4.heap.size->(∀j o lt,j < k->FZ L j b o lt->q≠o+5)->W.cell? ⟨b,q,none⟩=W4.cell? ⟨b,q,none⟩
 ty:∀b t,Ty W4 b t->Ty W b t
 old:∀b,b < W4.heap.size->(∀j o lt,j < k->¬ FZ L j b o lt)->W.heap[b]?=W4.heap[b]?
 done:∃M:Nat->Prop,(∀b,M b->¬ O b∧W4.heap.size<=b∧b < W.heap.size)∧∀j b o lt,j < k->FZ L j b o lt->∀h:j < (AL x).length,b < W4.heap.size∧∃a c,W.cell? ⟨b,o+5,none⟩=some (.slice a ((AL x)[j].1).args.length c)∧Dy W M a 0 ((AL x)[j].1).args
section
variable{N:NP}{W4 W w':World}{L:Bh}{x:An}{k b o:Nat}{lt:Int}{O:NP}
theorem Nj.start(W4:World)(L:Bh)(x:An):Nj W4 L x 0 (fun _=>False) W4:=
 ⟨rfl,rfl,rfl,ye _,fun _ h=>h.elim,fun _ _ _ _=>rfl,fun _ _ h=>h,fun _ _ _=>rfl,fun _=>False,fun _ h=>h.elim,fun j _ _ _ a=>by omega⟩
theorem Nj.stays:Dp (Nj W4 L x):=by
 intro k O W B W' h r z y u l m
 have d:∀b,b < W4.heap.size->W'.heap[b]?=W.heap[b]?:=fun b hb=>l b (fun e=>by have:=h.own b e;omega) (yp hb h.size)
 obtain ⟨M,m1,n⟩:=h.done
 refine ⟨z.trans h.os,y.trans h.tape,u.trans h.output,yr h.size r,fun b hb=>?_,fun b q hb g=>(Ac (d b hb)).trans (h.cells b q hb g),fun b t hb=>(h.ty b t hb).same (d b hb.lt),fun b hb g=>(d b hb).trans (h.old b hb g),M,fun b hb=>?_,fun j b o lt s p hl=>?_⟩
 ·rcases m b hb with h1|h1
  ·exact h.own b h1
  ·have:=h.size;omega
 ·obtain ⟨n1,n2,A⟩:=m1 b hb
  refine ⟨fun e=>?_,n2,by omega⟩
  rcases m b e with h1|h1
  ·exact n1 h1
  ·omega
 ·obtain ⟨f,a,c,v,w⟩:=n j b o lt s p hl
  exact ⟨f,a,c,(Ac (d b f)).trans v,w.same (fun _ h _=>h) (fun c hc i=>l c (m1 c hc).1 i)⟩
theorem Nj.read(hc:Ni N W4 L x)(h:Nj W4 L x k O W)(t:FZ L k b o lt)(hl:k < (AL x).length):
  ∃M:NP,(∀c,M c->N c∨(W4.heap.size<=c∧c < W.heap.size))∧∃cs,W.rangeAt b o cs∧AP M W (AL x)[k].1 cs:=by
 obtain ⟨c,c1,c2⟩:=hc.val k b o lt t hl
 obtain ⟨a,cap,rfl,e1,e2,Q⟩:=c2.cells
 obtain ⟨H,r1,r2,C,D,K⟩:=Br c1
 have l:=(hc.epos k b o lt t).lt
 have hN:∀c,N c->W.heap[c]?=W4.heap[c]?:=fun c g=>h.old c (hc.old c g).1 (fun j o lt _=>(hc.old c g).2 j o lt)
 have d:∀i,i < 5->W.cell? (aV b (o+i))=W4.cell? (aV b (o+i)):=fun i hi=>h.cells b _ l (fun j z e _ f r=>by
  have:=(hc.epos k b o lt t).uniq (hc.epos j b z e f) (j:=i) (j':=5) (by omega) (by omega) r
  omega)
 obtain ⟨M,m1,I⟩:=h.done
 by_cases p:∃j e,j < k∧FZ L j b o e
 ·obtain ⟨j,e,w,f⟩:=p
  have s:j < (AL x).length:=by omega
  obtain ⟨_,R,F,E,G⟩:=I j b o e w f s
  obtain ⟨J,v,m⟩:=hc.val j b o e f s
  have y:J=[iV (AL x)[k].1.op,iV (AL x)[k].1.n,iV (AL x)[k].1.u,.string (AL x)[k].1.rn,iV (AL x)[k].1.ri,.slice a (AL x)[k].1.args.length cap]:=by
   refine zM (by rw[m.len];rfl) fun q P B=>?_
   have h1:=v q _ (yk P)
   have h2:=c1 q _ (yk B)
   rw[h1] at h2
   exact yh h2
  subst y
  have r:(AL x)[j].1=(AL x)[k].1:=Ph _ m c2
  rw[r] at E G
  refine ⟨fun c=>N c∨M c,fun c hc=>hc.imp id (fun A=>(m1 c A).2),_,A5 ((d 0 (by omega)).trans H) (A5 ((d 1 (by omega)).trans r1) (A5 ((d 2 (by omega)).trans r2) (A5 ((d 3 (by omega)).trans C) (A5 ((d 4 (by omega)).trans D) (C9 E))))),AP.mk' e1 e2 (G.rowV (fun c A _=>.inr A))⟩
 ·have h5:W.cell? (aV b (o+5))=W4.cell? (aV b (o+5)):=h.cells b _ l (fun j z e w f r=>by
   have:=(hc.epos k b o lt t).uniq (hc.epos j b z e f) (j:=5) (j':=5) (by omega) (by omega) r
   obtain ⟨_,rfl⟩:=this
   exact p ⟨j,e,w,f⟩)
  exact ⟨N,fun c hc=>.inl hc,_,A5 ((d 0 (by omega)).trans H) (A5 ((d 1 (by omega)).trans r1) (A5 ((d 2 (by omega)).trans r2) (A5 ((d 3 (by omega)).trans C) (A5 ((d 4 (by omega)).trans D) (C9 (h5.trans K)))))),c2.same (fun _ h=>h) hN⟩
theorem Nj.next(hc:Ni N W4 L x)(h:Nj W4 L x k O W)(r:FZ L k b o lt)(hl:k < (AL x).length)(s:∀b,O b->b < W.heap.size)(d:Uf W b o (AL x)[k].1.args w'):Nj W4 L x (k+1) O w'∧Bv O W w':=by
 obtain ⟨l,P,U,a,cap,S,Y⟩:=d
 have I:=(hc.epos k b o lt r).lt
 have X:=h.size
 have v:∀c,W4.heap.size<=c->c < W.heap.size->w'.heap[c]?=W.heap[c]?:=fun c h1 h2=>l.block c h2 (fun e=>by cases e;omega)
 obtain ⟨M,m1,T⟩:=h.done
 refine ⟨⟨l.os.trans h.os,l.tape.trans h.tape,l.output.trans h.output,yr X l.size,h.own,fun c q d n=>?_,fun c t J=>?_,fun c d n=>?_,fun c=>M c∨(W.heap.size<=c∧c < w'.heap.size),fun c m=>?_,fun j b' y p G f C=>?_⟩,l.size,fun c D=>v c (h.own c D) (s c D)⟩
 ·by_cases i:c=b
  ·subst i
   rw[P q (n k o lt (by omega) r),h.cells c q d (fun j o lt G=>n j o lt (by omega))]
  ·rw[Ig l (by omega) i,h.cells c q d (fun j o lt G=>n j o lt (by omega))]
 ·by_cases i:c=b
  ·subst i;exact U t (h.ty c t J)
  ·exact (h.ty c t J).same (l.block c (h.ty c t J).lt (fun e=>i (by cases e;rfl)))
 ·have i:c≠b:=fun e=>n k o lt (by omega) (e▸r)
  rw[l.block c (by omega) (fun e=>i (by cases e;rfl)),h.old c d (fun j o lt G=>n j o lt (by omega))]
 ·rcases m with m|m
  ·obtain ⟨n1,n2,n3⟩:=m1 c m
   exact ⟨n1,n2,by have:=l.size;omega⟩
  ·exact ⟨fun D=>by have:=s c D;omega,by omega,m.2⟩
 ·have w:Dy w' (fun c=>M c∨(W.heap.size<=c∧c < w'.heap.size)) a 0 (AL x)[k].1.args:=Y.same (fun c h1 h2=>.inr ⟨h1,h2⟩) (fun _ _ _=>rfl)
  by_cases g:b'=b∧y=o
  ·obtain ⟨rfl,rfl⟩:=g
   obtain ⟨c,c1,c2⟩:=hc.val k b' y lt r hl
   obtain ⟨V,E,A⟩:=hc.val j b' y p f C
   have F:V=c:=by
    refine zM (by rw[A.len,c2.len]) fun q n H=>?_
    have h1:=E q _ (yk n)
    have h2:=c1 q _ (yk H)
    rw[h1] at h2
    exact yh h2
   subst F
   have he:(AL x)[j].1=(AL x)[k].1:=Ph _ A c2
   rw[he]
   exact ⟨I,a,cap,S,w⟩
  ·have K:j < k:=by
    rcases zO j k with R|R
    ·exact R
    ·exfalso
     obtain rfl:j=k:=by omega
     unfold FZ at r f
     rw[r] at f
     simp only[yV,qd,xz,xG,qh,and_true] at f
     exact g ⟨f.1.1.symm,f.1.2.symm⟩
   obtain ⟨B,a',z,Q,Z⟩:=T j b' y p K f C
   refine ⟨B,a',z,?_,Z.same (fun c m _=>.inl m) (fun c m d=>v c (m1 c m).2.1 d)⟩
   by_cases u:b'=b
   ·subst u
    rw[P _ (fun e=>g ⟨rfl,by omega⟩)];exact Q
   ·rw[Ig l (by have:=(hc.epos j b' y p f).lt;omega) u];exact Q
end
section
variable{N:NP}{E:Int->Ex->Nat->Nat->Prop}{R:Int->Rf->Nat->Nat->Prop}{w W:World}{L:Bh}{x:An}
theorem Ch.ok(h:Ch N E R w L x):L.Ok:=by
 refine ⟨h.lets.ok,h.crops.ok,h.reaches.ok,h.farms.ok,h.rots.ok,h.rights.ok,h.duties.ok,fun i hi=>?_⟩
 obtain ⟨_,_,_,_,_,_,_,_,_,_,_,a⟩:=h.rots.2.2 i (by rw[<-h.rots.1];exact hi)
 exact a.ok
theorem Ch.heads(h:Ch N E R w L x){Bs:Nat}(d:∀b o,MY w b o->W.cell? ⟨b,o,none⟩=w.cell? ⟨b,o,none⟩)(c:W.cell? ⟨Bs,0,none⟩=some (.pointer (some ⟨L.s,0,none⟩))):I9 L Bs W:=by
 have a:∀o,Fp 35 o=0->W.cell? (aV L.s o)=w.cell? (aV L.s o):=fun o e=>d _ _ ⟨_,h.ty,e⟩
 refine ⟨c,(a _ rfl).trans h.hlets,(a _ rfl).trans h.hcrops,(a _ rfl).trans h.hreaches,(a _ rfl).trans h.hfarms,(a _ rfl).trans h.hrots,(a _ rfl).trans h.hrights,(a _ rfl).trans h.hduties,fun i hi=>?_⟩
 obtain ⟨g,g1,_,ty,_,_,_,_,_,_,hc,_⟩:=h.rots.2.2 i (by rw[<-h.rots.1];exact hi)
 rw[AU g1,yA]
 exact (d _ _ (Dr ty Fq i 22 rfl)).trans hc
theorem Md{cs:LV}(h:B8 N w L cs x):∀v∈cs,v.oneCell'=true:=by
 obtain ⟨c0,c1,c2,rfl,c,g1,b⟩:=h.cells
 refine AI rfl (Ap (Ai c) (Ap (Ai g1) (Ap (Ai b) ?_)))
 intro v a
 simp at a
 rcases a with rfl|rfl|rfl|rfl|rfl|rfl|rfl<;>rfl
theorem Hf(h:At (TG N E w) (BO L) (AL x)){j b o:Nat}{lt:Int}(c:FZ L j b o lt):N b∧Gj w b o∧∀e:j < (AL x).length,E (AL x)[j].2 (AL x)[j].1 b o:=by
 unfold FZ at c
 obtain ⟨hl,d⟩:=yD.1 c
 have a:j < (AL x).length:=by rw[<-h.length];exact hl
 obtain ⟨b',f,h1,h2,h3,h4⟩:=h.get j hl a
 rw[d] at h1
 simp only[qd,xz,xG,yV,qh,and_true] at h1
 obtain ⟨⟨rfl,rfl⟩,_⟩:=h1
 exact ⟨h2,h3,fun _=>h4⟩
theorem Rb(h:At (TG N E w) (BO L) (AL x)){j:Nat}(a:j < (BO L).length):∃b o lt,FZ L j b o lt:=by
 obtain ⟨b,o,h1,_⟩:=h.get j a (by rw[<-h.length];exact a)
 exact ⟨b,o,_,by unfold FZ;rw[yk a,h1]⟩
theorem Sp{W4:World}{O:NP}{B:NP}{F:NP}(h:At (TG N E W4) (BO L) (AL x))(hc:Ni F W4 L x)(u:Nj W4 L x (BO L).length O W)(I:∀b,W4.heap.size<=b->¬ O b->B b):
  At (Ra fun (_:Int) e b o=>∃c,W.rangeAt b o c∧Hr W B e c) (BO L) (AL x):=by
 have p:∀(l:List (Array Value)) (m:List KK),l.length=m.length->(∀i (h1:i < l.length) (h2:i < m.length),Ra (fun (_:Int) e b o=>∃c,W.rangeAt b o c∧Hr W B e c) l[i] m[i])->At (Ra fun (_:Int) e b o=>∃c,W.rangeAt b o c∧Hr W B e c) l m:=by
  intro l
  induction l with
  |nil=>intro m f _;cases m with
   |nil=>trivial
   |cons=>simp at f
  |cons a l ih=>intro m f v;cases m with
   |nil=>simp at f
   |cons e m=>exact ⟨v 0 (by simp) (by simp),ih m (by simpa using f) (fun i h1 h2=>v (i+1) (by simpa using h1) (by simpa using h2))⟩
 refine p _ _ h.length fun i h1 h2=>?_
 obtain ⟨b,o,s,K,T,P⟩:=h.get i h1 h2
 have g:FZ L i b o (AL x)[i].2:=by unfold FZ;rw[yk h1,s]
 obtain ⟨M,m1,y⟩:=u.done
 obtain ⟨n,a,cap,C,D⟩:=y i b o _ h1 g h2
 obtain ⟨c,c1,c2⟩:=hc.val i b o _ g h2
 obtain ⟨S,t,rfl,e1,e2,J⟩:=c2.cells
 obtain ⟨G,r1,r2,w,z,R⟩:=Br c1
 have d:∀q,q < 5->W.cell? (aV b (o+q))=W4.cell? (aV b (o+q)):=fun q Q=>u.cells b _ n (fun j A k _ r H=>by
  have:=(hc.epos i b o _ g).uniq (hc.epos j b A k r) (j:=q) (j':=5) (by omega) (by omega) H
  omega)
 exact ⟨b,o,s,_,A5 ((d 0 (by omega)).trans G) (A5 ((d 1 (by omega)).trans r1) (A5 ((d 2 (by omega)).trans r2) (A5 ((d 3 (by omega)).trans w) (A5 ((d 4 (by omega)).trans z) (C9 C))))),Hr.mk' e1 e2 (D.same (fun b hb _=>I b (m1 b hb).2.1 (m1 b hb).1) (fun _ _ _=>rfl))⟩
theorem Hg{d:NP}{W4:World}{k:Nat}{O:NP}(hc:Ni d W4 L x)(f:Nj W4 L x k O W){b q:Nat}{t:Nat}(ty:Ty W4 b t)(a:Fp t q≠1):W.cell? ⟨b,q,none⟩=W4.cell? ⟨b,q,none⟩:=
 f.cells b q ty.lt (fun j o lt _ c e=>by
  obtain ⟨t',h1,h2⟩:=hc.epos j b o lt c
  obtain rfl:=ty.inj h1
  exact a (by rw[e];exact (h2 5 (by omega)).1))
end
end Go.Proofs.Ytghepahgkcigpaa
namespace Go.Proofs.Ytghepahgkcigpaa
open Go.RowKit
attribute [local go_sem] Oper.semAt_some
def ET(B:NP)(w:World)(_:Int)(e:Ex)(b o:Nat):Prop:=∃c,w.rangeAt b o c∧Hr w B e c
theorem Gp{fn:Func}{t:Tmp}{ty:TypeId}{tmps:Array Value}{P:Program}{w:World}{p:Addr}{v:Value}(h:fn.results=#[.cell t ty])(a:tmps.getD t undef=.pointer (some p))(hl:(loadVar ty p).run P w=.ok v w):(results fn tmps).run P w=.ok v w:=by
 rw[yG] at a
 simp[results,h,a,asAddr,hl]
def Lp(w:World)(x:An)(e:Ending)(w':World):Prop:=
 ∃(L:Bh) (cs:LV),e=.returned (.agg cs.toArray)∧cs.length=26∧(∀v∈cs,v.oneCell'=true)∧Below w.heap.size w w'∧L.s=w.heap.size∧w'.rangeAt L.s 0 cs∧Ch (fun g=>w.heap.size<=g∧g≠w.heap.size+1) (ET (fun g=>w.heap.size+2<=g) w') (RV w') w' L x
theorem Kf(W:World)(r:Option Nat):W.grownBy W r:=⟨rfl,rfl,rfl,ye _,fun _ _ _=>rfl⟩
theorem Kg{W V:World}{r:Option Nat}(h:W.grownBy V r):W.grownBy V.drew r:=⟨h.os,h.tape,h.output,h.size,h.block⟩
theorem AW{W V U:World}{r:Option Nat}(h:W.grownBy V r)(k:V.grownBy U r):W.grownBy U r:=
 ⟨k.os.trans h.os,k.tape.trans h.tape,k.output.trans h.output,yr h.size k.size,fun b hb a=>(k.block b (yp hb h.size) a).trans (h.block b hb a)⟩
theorem BU{V U:World}{r:Option Nat}(h:Below V.heap.size V U):V.grownBy U r:=⟨h.os,h.tape,h.output,h.size,fun b hb _=>h.block b hb⟩
def Lq{α:Type}:List α->Option Addr->Option Nat
 |[],_=>none
 |_::_,a=>a.map (·.block)
theorem F6{α:Type}{l:List α}{i g:Nat}(h:i < l.length):Lq l (some ⟨g,0,none⟩)=some g:=by
 cases l with
 |nil=>simp at h
 |cons x r=>rfl
structure TL (U:World) (a:Option Addr) (N:Nat->Prop) (w:World) (l:List B7) (hs:List Av) (wr:World):Prop where
 grown:U.grownBy wr (Lq l a)
 len:hs.length<=l.length
 ty:∀g,a=some ⟨g,0,none⟩->∀t,Ty U g t->Ty wr g t
 cells:∀g,a=some ⟨g,0,none⟩->∀q,(∀j,j < hs.length->q≠j*23+22)->wr.cell? ⟨g,q,none⟩=U.cell? ⟨g,q,none⟩
 done:∀j (_:j < hs.length) (_:j < l.length),Gz U.heap.size wr 66 8 (Dm N w) hs[j] l[j].turns∧∀g,a=some ⟨g,0,none⟩->wr.cell? ⟨g,j*23+22,none⟩=some hs[j].v
theorem Lr{α:Type}{l:List α}{a:Option Addr}{b:Nat}(h:some b=Lq l a):0 < l.length:=by
 cases l with
 |nil=>cases h
 |cons x r=>simp
theorem TL.next{U:World}{a:Option Addr}{N:NP}{w:World}{l:List B7}{hs:List Av}{wr V B:World}{g:Nat}{p:Av}{u:Value}(m:TL U a N w l hs wr)(hi:hs.length < l.length)(h:a=some ⟨g,0,none⟩)(L:g < U.heap.size)(hb:Below wr.heap.size wr V)
 (hc:V.cell? ⟨g,hs.length*23+22,none⟩=some u)(z:Gz wr.heap.size V 66 8 (Dm N w) p l[hs.length].turns)(H:B=V.setCell ⟨g,hs.length*23+22,none⟩ p.v):TL U a N w l (hs++[p]) B:=by
 obtain ⟨n,r,A,y⟩:=Af p.v hc
 rw[<-H] at n r A y
 have G:=m.grown.size
 have F:=hb.size
 have i:V.heap[g]?=wr.heap[g]?:=hb.block g (by omega)
 have d:∀q,V.cell? (aV g q)=wr.cell? (aV g q):=fun q=>by unfold World.cell?;rw[i]
 have o:Lq l a=some g:=by rw[h];exact F6 hi
 refine ⟨?_,by simp;omega,fun s c t K=>?_,fun s c q D=>?_,fun j C hl=>?_⟩
 ·rw[o]
  have h0:=m.grown
  rw[o] at h0
  exact AW (AW h0 (BU hb)) n
 ·rw[h] at c;cases c
  exact A t ((m.ty g h t K).same i)
 ·rw[h] at c;cases c
  rw[r q (D hs.length (by simp)),d,m.cells g h q (fun j C=>D j (by simp;omega))]
 ·by_cases x:j=hs.length
  ·subst x
   rw[xW (ye _)]
   simp only[Nat.sub_self,List.getElem_cons_zero]
   exact ⟨Gz.of (z.up (fun b E f=>n.block b f (fun e=>by cases e;omega))).1 G (z.up (fun b E f=>n.block b f (fun e=>by cases e;omega))).2,fun s c=>by rw[h] at c;cases c;exact y⟩
  ·have k:j < hs.length:=by simp at C;omega
   rw[xZ k]
   obtain ⟨I,J⟩:=m.done j k hl
   refine ⟨I.up (fun b E f=>(n.block b (by omega) (fun e=>by cases e;omega)).trans (hb.block b f)),fun s c=>?_⟩
   rw[h] at c;cases c
   rw[r _ (by omega),d,J g h]
theorem Rd{N:NP}{w:World}{t:Av}{cs:LV}{d:B7}(h:Gg N w t cs d):Az N w 8 (Dm N w) t d.turns:=by
 obtain ⟨_,_,_,_,_,_,_,_,_,h⟩:=h
 exact h
theorem Re{N:NP}{w:World}{L:Bh}(cs:LV)(d:B7 × Nat)(h:Gg N w (A4 L d.2) cs d.1):∀v∈cs,v.oneCell'=true:=Ii h
theorem Rg{N:NP}{w W:World}{L:Bh}{l:List B7}(h:L.rots.n=l.length∧l.length<=140737488355328∧∀i (hi:i < l.length),∃b o cs,L.rots.a=some ⟨b,o,none⟩∧N b∧cs.length=23∧w.rangeAt b (o+i*23) cs∧Gg N w (A4 L i) cs l[i])(hb:∀b,N b->W.heap[b]?=w.heap[b]?):
  Az N W 23 (fun cs (d:B7 × Nat)=>Gg N w (A4 L d.2) cs d.1) L.rots l.zipIdx:=by
 obtain ⟨h1,h2,h3⟩:=h
 refine ⟨by rw[zA];exact h1,by rw[zA];exact h2,fun i hi=>?_⟩
 rw[zA] at hi
 obtain ⟨b,o,cs,g1,c,e,g,f⟩:=h3 i hi
 refine ⟨b,o,cs,g1,c,e,A2 g (hb b c),?_⟩
 rw[xv]
 simpa using f
theorem OH{N:NP}{w:World}{L:Bh}{cs:LV}{x:An}(h:B8 N w L cs x)(hN:∀b,N b->b < w.heap.size)(fk:I1 x):
  Calls Try.prog 48 #[.agg cs.toArray] w (Lp w x):=by
 obtain ⟨c0,c1,c2,rfl,g0,g1,g2⟩:=h.cells
 obtain ⟨a0,p0,rfl,e0⟩:=g0.cells
 obtain ⟨a1,p1,rfl,e1⟩:=g1.cells
 obtain ⟨a2,p2,rfl,e2⟩:=g2.cells
 have HV:=yb h
 have HN:=yb hN
 have b3:=yb fk
 have ge:=yb g0;have fx:=yb g1;have g9:=yb g2
 clear h hN fk g0 g1 g2 e0 e1 e2
 unfold Av.v
 simp only[z7,zj]
 refine Cd (n:=10) Try.func48 rfl ?_
 simp only[Try.ntmps48,yB,yE,yI,Nat.reduceAdd,Nat.reduceSub,zJ,zK,zW,zQ,zj,z7]
 refine Ad (A6 ?_)
 go_wp2
 have f1:Below w.heap.size w ((w.alloc (.cells #[.string x.name,iV x.season.op,iV x.season.n,iV x.season.u,.string x.season.rn,iV x.season.ri,.slice a0 x.season.args.length p0,iV x.cap.op,iV x.cap.n,iV x.cap.u,.string x.cap.rn,iV x.cap.ri,.slice a1 x.cap.args.length p1,iV x.start.op,iV x.start.n,iV x.start.u,.string x.start.rn,iV x.start.ri,.slice a2 x.start.args.length p2,.slice L.lets.a L.lets.n L.lets.c,.slice L.crops.a L.crops.n L.crops.c,.slice L.reaches.a L.reaches.n L.reaches.c,.slice L.farms.a L.farms.n L.farms.c,.slice L.rots.a L.rots.n L.rots.c,.slice L.rights.a L.rights.n L.rights.c,.slice L.duties.a L.duties.n L.duties.c] 35)).alloc (.cells #[.string ⟨#[]⟩,iV 0,iV 0,iV 0,.string ⟨#[]⟩,iV 0,.slice none 0 0,iV 0,iV 0,iV 0,.string ⟨#[]⟩,iV 0,.slice none 0 0,iV 0,iV 0,iV 0,.string ⟨#[]⟩,iV 0,.slice none 0 0,.slice none 0 0,.slice none 0 0,.slice none 0 0,.slice none 0 0,.slice none 0 0,.slice none 0 0,.slice none 0 0] 35)):=((yg _ _).alloc (ye _) _).alloc (by simp) _
 have fo:((w.alloc (.cells #[.string x.name,iV x.season.op,iV x.season.n,iV x.season.u,.string x.season.rn,iV x.season.ri,.slice a0 x.season.args.length p0,iV x.cap.op,iV x.cap.n,iV x.cap.u,.string x.cap.rn,iV x.cap.ri,.slice a1 x.cap.args.length p1,iV x.start.op,iV x.start.n,iV x.start.u,.string x.start.rn,iV x.start.ri,.slice a2 x.start.args.length p2,.slice L.lets.a L.lets.n L.lets.c,.slice L.crops.a L.crops.n L.crops.c,.slice L.reaches.a L.reaches.n L.reaches.c,.slice L.farms.a L.farms.n L.farms.c,.slice L.rots.a L.rots.n L.rots.c,.slice L.rights.a L.rights.n L.rights.c,.slice L.duties.a L.duties.n L.duties.c] 35)).alloc (.cells #[.string ⟨#[]⟩,iV 0,iV 0,iV 0,.string ⟨#[]⟩,iV 0,.slice none 0 0,iV 0,iV 0,iV 0,.string ⟨#[]⟩,iV 0,.slice none 0 0,iV 0,iV 0,iV 0,.string ⟨#[]⟩,iV 0,.slice none 0 0,.slice none 0 0,.slice none 0 0,.slice none 0 0,.slice none 0 0,.slice none 0 0,.slice none 0 0,.slice none 0 0] 35)).heap[w.heap.size]?=some (.cells #[.string x.name,iV x.season.op,iV x.season.n,iV x.season.u,.string x.season.rn,iV x.season.ri,.slice a0 x.season.args.length p0,iV x.cap.op,iV x.cap.n,iV x.cap.u,.string x.cap.rn,iV x.cap.ri,.slice a1 x.cap.args.length p1,iV x.start.op,iV x.start.n,iV x.start.u,.string x.start.rn,iV x.start.ri,.slice a2 x.start.args.length p2,.slice L.lets.a L.lets.n L.lets.c,.slice L.crops.a L.crops.n L.crops.c,.slice L.reaches.a L.reaches.n L.reaches.c,.slice L.farms.a L.farms.n L.farms.c,.slice L.rots.a L.rots.n L.rots.c,.slice L.rights.a L.rights.n L.rights.c,.slice L.duties.a L.duties.n L.duties.c] 35 (0,0)):=(yQ _ _ _ (by simp)).trans (World.alloc_heap_new w _)
 have en:((w.alloc (.cells #[.string x.name,iV x.season.op,iV x.season.n,iV x.season.u,.string x.season.rn,iV x.season.ri,.slice a0 x.season.args.length p0,iV x.cap.op,iV x.cap.n,iV x.cap.u,.string x.cap.rn,iV x.cap.ri,.slice a1 x.cap.args.length p1,iV x.start.op,iV x.start.n,iV x.start.u,.string x.start.rn,iV x.start.ri,.slice a2 x.start.args.length p2,.slice L.lets.a L.lets.n L.lets.c,.slice L.crops.a L.crops.n L.crops.c,.slice L.reaches.a L.reaches.n L.reaches.c,.slice L.farms.a L.farms.n L.farms.c,.slice L.rots.a L.rots.n L.rots.c,.slice L.rights.a L.rights.n L.rights.c,.slice L.duties.a L.duties.n L.duties.c] 35)).alloc (.cells #[.string ⟨#[]⟩,iV 0,iV 0,iV 0,.string ⟨#[]⟩,iV 0,.slice none 0 0,iV 0,iV 0,iV 0,.string ⟨#[]⟩,iV 0,.slice none 0 0,iV 0,iV 0,iV 0,.string ⟨#[]⟩,iV 0,.slice none 0 0,.slice none 0 0,.slice none 0 0,.slice none 0 0,.slice none 0 0,.slice none 0 0,.slice none 0 0,.slice none 0 0] 35)).heap[w.heap.size+1]?=some (.cells #[.string ⟨#[]⟩,iV 0,iV 0,iV 0,.string ⟨#[]⟩,iV 0,.slice none 0 0,iV 0,iV 0,iV 0,.string ⟨#[]⟩,iV 0,.slice none 0 0,iV 0,iV 0,iV 0,.string ⟨#[]⟩,iV 0,.slice none 0 0,.slice none 0 0,.slice none 0 0,.slice none 0 0,.slice none 0 0,.slice none 0 0,.slice none 0 0,.slice none 0 0] 35 (0,0)):=by
  have:=World.alloc_heap_new (w.alloc (.cells #[.string x.name,iV x.season.op,iV x.season.n,iV x.season.u,.string x.season.rn,iV x.season.ri,.slice a0 x.season.args.length p0,iV x.cap.op,iV x.cap.n,iV x.cap.u,.string x.cap.rn,iV x.cap.ri,.slice a1 x.cap.args.length p1,iV x.start.op,iV x.start.n,iV x.start.u,.string x.start.rn,iV x.start.ri,.slice a2 x.start.args.length p2,.slice L.lets.a L.lets.n L.lets.c,.slice L.crops.a L.crops.n L.crops.c,.slice L.reaches.a L.reaches.n L.reaches.c,.slice L.farms.a L.farms.n L.farms.c,.slice L.rots.a L.rots.n L.rots.c,.slice L.rights.a L.rights.n L.rights.c,.slice L.duties.a L.duties.n L.duties.c] 35)) (.cells #[.string ⟨#[]⟩,iV 0,iV 0,iV 0,.string ⟨#[]⟩,iV 0,.slice none 0 0,iV 0,iV 0,iV 0,.string ⟨#[]⟩,iV 0,.slice none 0 0,iV 0,iV 0,iV 0,.string ⟨#[]⟩,iV 0,.slice none 0 0,.slice none 0 0,.slice none 0 0,.slice none 0 0,.slice none 0 0,.slice none 0 0,.slice none 0 0,.slice none 0 0] 35)
  rwa [zv] at this
 have ft:((w.alloc (.cells #[.string x.name,iV x.season.op,iV x.season.n,iV x.season.u,.string x.season.rn,iV x.season.ri,.slice a0 x.season.args.length p0,iV x.cap.op,iV x.cap.n,iV x.cap.u,.string x.cap.rn,iV x.cap.ri,.slice a1 x.cap.args.length p1,iV x.start.op,iV x.start.n,iV x.start.u,.string x.start.rn,iV x.start.ri,.slice a2 x.start.args.length p2,.slice L.lets.a L.lets.n L.lets.c,.slice L.crops.a L.crops.n L.crops.c,.slice L.reaches.a L.reaches.n L.reaches.c,.slice L.farms.a L.farms.n L.farms.c,.slice L.rots.a L.rots.n L.rots.c,.slice L.rights.a L.rights.n L.rights.c,.slice L.duties.a L.duties.n L.duties.c] 35)).alloc (.cells #[.string ⟨#[]⟩,iV 0,iV 0,iV 0,.string ⟨#[]⟩,iV 0,.slice none 0 0,iV 0,iV 0,iV 0,.string ⟨#[]⟩,iV 0,.slice none 0 0,iV 0,iV 0,iV 0,.string ⟨#[]⟩,iV 0,.slice none 0 0,.slice none 0 0,.slice none 0 0,.slice none 0 0,.slice none 0 0,.slice none 0 0,.slice none 0 0,.slice none 0 0] 35)).heap.size=w.heap.size+2:=by simp
 generalize (w.alloc (.cells #[.string x.name,iV x.season.op,iV x.season.n,iV x.season.u,.string x.season.rn,iV x.season.ri,.slice a0 x.season.args.length p0,iV x.cap.op,iV x.cap.n,iV x.cap.u,.string x.cap.rn,iV x.cap.ri,.slice a1 x.cap.args.length p1,iV x.start.op,iV x.start.n,iV x.start.u,.string x.start.rn,iV x.start.ri,.slice a2 x.start.args.length p2,.slice L.lets.a L.lets.n L.lets.c,.slice L.crops.a L.crops.n L.crops.c,.slice L.reaches.a L.reaches.n L.reaches.c,.slice L.farms.a L.farms.n L.farms.c,.slice L.rots.a L.rots.n L.rots.c,.slice L.rights.a L.rights.n L.rights.c,.slice L.duties.a L.duties.n L.duties.c] 35)).alloc (.cells #[.string ⟨#[]⟩,iV 0,iV 0,iV 0,.string ⟨#[]⟩,iV 0,.slice none 0 0,iV 0,iV 0,iV 0,.string ⟨#[]⟩,iV 0,.slice none 0 0,iV 0,iV 0,iV 0,.string ⟨#[]⟩,iV 0,.slice none 0 0,.slice none 0 0,.slice none 0 0,.slice none 0 0,.slice none 0 0,.slice none 0 0,.slice none 0 0,.slice none 0 0] 35)=W1 at*
 have cm:=yb f1;have ga:=yb fo;have fw:=yb en;have aa:=yb ft
 clear f1 fo en ft
 have bs:Hid (∀W,W1.grownBy W (some w.heap.size)->∀b,N b->W.heap[b]?=w.heap[b]?):=yb (fun W hW b hb=>(hW.block b (by have:=HN.o b hb;have:=aa.o;omega) (fun e=>by cases e;have:=HN.o _ hb;omega)).trans (cm.o.block b (HN.o b hb)))
 have bm:Hid (∀W,W1.grownBy W (some w.heap.size)->∀b,N b->b < W.heap.size):=yb (fun W hW b hb=>by have:=HN.o b hb;have:=aa.o;have:=hW.size;omega)
 have ey:Hid (W1.grownBy W1 (some w.heap.size)):=yb (Kf _ _)
 refine Ad (A6 ?_)
 refine wp_region_noPanic ?_
 have f7:W1.drew.heap[w.heap.size]?=some (.cells #[.string x.name,iV x.season.op,iV x.season.n,iV x.season.u,.string x.season.rn,iV x.season.ri,.slice a0 x.season.args.length p0,iV x.cap.op,iV x.cap.n,iV x.cap.u,.string x.cap.rn,iV x.cap.ri,.slice a1 x.cap.args.length p1,iV x.start.op,iV x.start.n,iV x.start.u,.string x.start.rn,iV x.start.ri,.slice a2 x.start.args.length p2,.slice L.lets.a L.lets.n L.lets.c,.slice L.crops.a L.crops.n L.crops.c,.slice L.reaches.a L.reaches.n L.reaches.c,.slice L.farms.a L.farms.n L.farms.c,.slice L.rots.a L.rots.n L.rots.c,.slice L.rights.a L.rights.n L.rights.c,.slice L.duties.a L.duties.n L.duties.c] 35 (0,0)):=ga.o
 have bn:=yb f7
 clear f7
 refine BT (by kernel_rfl) (fun W=>W.heap[w.heap.size]?=some (.cells #[.string x.name,iV x.season.op,iV x.season.n,iV x.season.u,.string x.season.rn,iV x.season.ri,.slice a0 x.season.args.length p0,iV x.cap.op,iV x.cap.n,iV x.cap.u,.string x.cap.rn,iV x.cap.ri,.slice a1 x.cap.args.length p1,iV x.start.op,iV x.start.n,iV x.start.u,.string x.start.rn,iV x.start.ri,.slice a2 x.start.args.length p2,.slice L.lets.a L.lets.n L.lets.c,.slice L.crops.a L.crops.n L.crops.c,.slice L.reaches.a L.reaches.n L.reaches.c,.slice L.farms.a L.farms.n L.farms.c,.slice L.rots.a L.rots.n L.rots.c,.slice L.rights.a L.rights.n L.rights.c,.slice L.duties.a L.duties.n L.duties.c] 35 (0,0))) 13 ?_
 refine A0 (i:=0) (v:=pV w.heap.size 19) rfl (by kernel_rfl) (by kernel_rfl) (by kernel_rfl) (fun _ _ _ h=>h) (by kernel_rfl) (Or.inl ⟨by rfl,?_⟩) (fun _=>bn.o) ?_
 ·intro w _;go_simp
 refine Ae (i:=1) (v:=.slice L.lets.a L.lets.n L.lets.c) rfl (by kernel_rfl) (by kernel_rfl) (by kernel_rfl) (fun _ _ _ h=>h) (by kernel_rfl) (Or.inl ⟨by rfl,?_⟩) bn.o ?_
 ·intro W hW
  have hc:W.cell? (aV w.heap.size 19)=some (.slice L.lets.a L.lets.n L.lets.c):=by simp only[World.cell?,hW];rfl
  clear hW
  go_simp
 refine A0 (i:=3) (v:=pV w.heap.size 20) rfl (by kernel_rfl) (by kernel_rfl) (by kernel_rfl) (fun _ _ _ h=>h) (by kernel_rfl) (Or.inl ⟨by rfl,?_⟩) (fun _=>bn.o) ?_
 ·intro w _;go_simp
 refine Ae (i:=4) (v:=.slice L.crops.a L.crops.n L.crops.c) rfl (by kernel_rfl) (by kernel_rfl) (by kernel_rfl) (fun _ _ _ h=>h) (by kernel_rfl) (Or.inl ⟨by rfl,?_⟩) bn.o ?_
 ·intro W hW
  have hc:W.cell? (aV w.heap.size 20)=some (.slice L.crops.a L.crops.n L.crops.c):=by simp only[World.cell?,hW];rfl
  clear hW
  go_simp
 refine A0 (i:=6) (v:=pV w.heap.size 21) rfl (by kernel_rfl) (by kernel_rfl) (by kernel_rfl) (fun _ _ _ h=>h) (by kernel_rfl) (Or.inl ⟨by rfl,?_⟩) (fun _=>bn.o) ?_
 ·intro w _;go_simp
 refine Ae (i:=7) (v:=.slice L.reaches.a L.reaches.n L.reaches.c) rfl (by kernel_rfl) (by kernel_rfl) (by kernel_rfl) (fun _ _ _ h=>h) (by kernel_rfl) (Or.inl ⟨by rfl,?_⟩) bn.o ?_
 ·intro W hW
  have hc:W.cell? (aV w.heap.size 21)=some (.slice L.reaches.a L.reaches.n L.reaches.c):=by simp only[World.cell?,hW];rfl
  clear hW
  go_simp
 refine A0 (i:=9) (v:=pV w.heap.size 22) rfl (by kernel_rfl) (by kernel_rfl) (by kernel_rfl) (fun _ _ _ h=>h) (by kernel_rfl) (Or.inl ⟨by rfl,?_⟩) (fun _=>bn.o) ?_
 ·intro w _;go_simp
 refine Ae (i:=10) (v:=.slice L.farms.a L.farms.n L.farms.c) rfl (by kernel_rfl) (by kernel_rfl) (by kernel_rfl) (fun _ _ _ h=>h) (by kernel_rfl) (Or.inl ⟨by rfl,?_⟩) bn.o ?_
 ·intro W hW
  have hc:W.cell? (aV w.heap.size 22)=some (.slice L.farms.a L.farms.n L.farms.c):=by simp only[World.cell?,hW];rfl
  clear hW
  go_simp
 have ba:Hid (W1.grownBy W1.drew (some w.heap.size)):=yb (Kg ey.o)
 refine A3 (i:=2) (by kernel_rfl) rfl (fun K hK=>?_)
 go_simp
 refine (Q1 (HV.o.lets.same (fun _ h=>h) (bs.o _ ba.o) (fun _ _ h=>h)) (bm.o _ ba.o) Pf b3.o.lets).mono ?_
 rintro e de ⟨⟨Z,a6,a7⟩,rfl,bp,bq,ay⟩
 rw[show Av.v ⟨Z,a6,a7⟩=Value.slice Z a6 a7 from rfl]
 simp only at bp ay
 have b8:Hid (W1.grownBy de (some w.heap.size)):=yb (AW ba.o (BU bq))
 have cq:Hid (de.heap[w.heap.size]?=some (.cells #[.string x.name,iV x.season.op,iV x.season.n,iV x.season.u,.string x.season.rn,iV x.season.ri,.slice a0 x.season.args.length p0,iV x.cap.op,iV x.cap.n,iV x.cap.u,.string x.cap.rn,iV x.cap.ri,.slice a1 x.cap.args.length p1,iV x.start.op,iV x.start.n,iV x.start.u,.string x.start.rn,iV x.start.ri,.slice a2 x.start.args.length p2,.slice L.lets.a L.lets.n L.lets.c,.slice L.crops.a L.crops.n L.crops.c,.slice L.reaches.a L.reaches.n L.reaches.c,.slice L.farms.a L.farms.n L.farms.c,.slice L.rots.a L.rots.n L.rots.c,.slice L.rights.a L.rights.n L.rights.c,.slice L.duties.a L.duties.n L.duties.c] 35 (0,0))):=yb ((bq.block _ (by have:=ba.o.size;have:=aa.o;omega)).trans bn.o)
 have E:Hid (Gz W1.heap.size de 55 7 (FP N w) ⟨Z,a6,a7⟩ x.lets):=yb (Gz.of bp (by exact ba.o.size) ay)
 clear bp bq ay
 refine hK.o _ _ (fun _=>cq.o) ?_
 clear hK K
 refine A3 (i:=5) (by kernel_rfl) rfl (fun K hK=>?_)
 go_simp
 refine (Oq (HV.o.crops.same (fun _ h=>h) (bs.o _ b8.o) (fun _ _ h=>h)) (bm.o _ b8.o) MZ b3.o.crops).mono ?_
 rintro e e7 ⟨⟨F,G,H⟩,rfl,b7,ar,aq⟩
 rw[show Av.v ⟨F,G,H⟩=Value.slice F G H from rfl]
 simp only at b7 aq
 have b9:Hid (W1.grownBy e7 (some w.heap.size)):=yb (AW b8.o (BU ar))
 have cu:Hid (e7.heap[w.heap.size]?=some (.cells #[.string x.name,iV x.season.op,iV x.season.n,iV x.season.u,.string x.season.rn,iV x.season.ri,.slice a0 x.season.args.length p0,iV x.cap.op,iV x.cap.n,iV x.cap.u,.string x.cap.rn,iV x.cap.ri,.slice a1 x.cap.args.length p1,iV x.start.op,iV x.start.n,iV x.start.u,.string x.start.rn,iV x.start.ri,.slice a2 x.start.args.length p2,.slice L.lets.a L.lets.n L.lets.c,.slice L.crops.a L.crops.n L.crops.c,.slice L.reaches.a L.reaches.n L.reaches.c,.slice L.farms.a L.farms.n L.farms.c,.slice L.rots.a L.rots.n L.rots.c,.slice L.rights.a L.rights.n L.rights.c,.slice L.duties.a L.duties.n L.duties.c] 35 (0,0))):=yb ((ar.block _ (by have:=b8.o.size;have:=aa.o;omega)).trans cq.o)
 replace E:=yb (E.o.up (fun b _ f=>ar.block b f))
 have C:Hid (Gz W1.heap.size e7 57 7 (Dq N w) ⟨F,G,H⟩ x.crops):=yb (Gz.of b7 (by exact b8.o.size) aq)
 clear b7 ar aq
 refine hK.o _ _ (fun _=>cu.o) ?_
 clear hK K
 refine A3 (i:=8) (by kernel_rfl) rfl (fun K hK=>?_)
 go_simp
 refine (N4 (HV.o.reaches.same (fun _ h=>h) (bs.o _ b9.o) (fun _ _ h=>h)) (bm.o _ b9.o) II b3.o.reaches).mono ?_
 rintro e e4 ⟨⟨m,l,y⟩,rfl,an,ah,ak⟩
 rw[show Av.v ⟨m,l,y⟩=Value.slice m l y from rfl]
 simp only at an ak
 have bh:Hid (W1.grownBy e4 (some w.heap.size)):=yb (AW b9.o (BU ah))
 have cv:Hid (e4.heap[w.heap.size]?=some (.cells #[.string x.name,iV x.season.op,iV x.season.n,iV x.season.u,.string x.season.rn,iV x.season.ri,.slice a0 x.season.args.length p0,iV x.cap.op,iV x.cap.n,iV x.cap.u,.string x.cap.rn,iV x.cap.ri,.slice a1 x.cap.args.length p1,iV x.start.op,iV x.start.n,iV x.start.u,.string x.start.rn,iV x.start.ri,.slice a2 x.start.args.length p2,.slice L.lets.a L.lets.n L.lets.c,.slice L.crops.a L.crops.n L.crops.c,.slice L.reaches.a L.reaches.n L.reaches.c,.slice L.farms.a L.farms.n L.farms.c,.slice L.rots.a L.rots.n L.rots.c,.slice L.rights.a L.rights.n L.rights.c,.slice L.duties.a L.duties.n L.duties.c] 35 (0,0))):=yb ((ah.block _ (by have:=b9.o.size;have:=aa.o;omega)).trans cu.o)
 replace E:=yb (E.o.up (fun b _ f=>ah.block b f))
 replace C:=yb (C.o.up (fun b _ f=>ah.block b f))
 have A:Hid (Gz W1.heap.size e4 51 51 (CG N w) ⟨m,l,y⟩ x.reaches):=yb (Gz.of an (by exact b9.o.size) ak)
 clear an ah ak
 refine hK.o _ _ (fun _=>cv.o) ?_
 clear hK K
 refine A3 (i:=11) (by kernel_rfl) rfl (fun K hK=>?_)
 go_simp
 refine (Ot (HV.o.farms.same (fun _ h=>h) (bs.o _ bh.o) (fun _ _ h=>h)) (bm.o _ bh.o) N0 b3.o.farms).mono ?_
 rintro e bv ⟨⟨T,nfarms,S⟩,rfl,bb,ai,ap⟩
 rw[show Av.v ⟨T,nfarms,S⟩=Value.slice T nfarms S from rfl]
 simp only at bb ap
 have dr:Hid (W1.grownBy bv (some w.heap.size)):=yb (AW bh.o (BU ai))
 have aw:Hid (bv.heap[w.heap.size]?=some (.cells #[.string x.name,iV x.season.op,iV x.season.n,iV x.season.u,.string x.season.rn,iV x.season.ri,.slice a0 x.season.args.length p0,iV x.cap.op,iV x.cap.n,iV x.cap.u,.string x.cap.rn,iV x.cap.ri,.slice a1 x.cap.args.length p1,iV x.start.op,iV x.start.n,iV x.start.u,.string x.start.rn,iV x.start.ri,.slice a2 x.start.args.length p2,.slice L.lets.a L.lets.n L.lets.c,.slice L.crops.a L.crops.n L.crops.c,.slice L.reaches.a L.reaches.n L.reaches.c,.slice L.farms.a L.farms.n L.farms.c,.slice L.rots.a L.rots.n L.rots.c,.slice L.rights.a L.rights.n L.rights.c,.slice L.duties.a L.duties.n L.duties.c] 35 (0,0))):=yb ((ai.block _ (by have:=bh.o.size;have:=aa.o;omega)).trans cv.o)
 replace E:=yb (E.o.up (fun b _ f=>ai.block b f))
 replace C:=yb (C.o.up (fun b _ f=>ai.block b f))
 replace A:=yb (A.o.up (fun b _ f=>ai.block b f))
 have X:Hid (Gz W1.heap.size bv 59 12 (DE N w) ⟨T,nfarms,S⟩ x.farms):=yb (Gz.of bb (by exact bh.o.size) ap)
 clear bb ai ap
 refine hK.o _ _ (fun _=>aw.o) ?_
 clear hK K
 refine A0 (i:=12) (v:=pV w.heap.size 19) rfl (by kernel_rfl) (by kernel_rfl) (by kernel_rfl) (fun _ _ _ h=>h) (by kernel_rfl) (Or.inl ⟨by rfl,?_⟩) (by first|exact fun _=>aw.o|(intro h;cases h)) ?_
 ·intro w _;go_simp
 refine A3 (i:=13) (by kernel_rfl) rfl (fun K hK=>?_)
 have hc:bv.cell? (aV w.heap.size 19)=some (.slice L.lets.a L.lets.n L.lets.c):=by simp only[World.cell?,aw.o];rfl
 have hf:bv.frozen? (aV w.heap.size 19)=false:=by simp[World.frozen?,aw.o]
 go_simp
 have bz:Hid ((bv.setCell (aV w.heap.size 19) (.slice Z a6 a7)).heap[w.heap.size]?=some (.cells #[.string x.name,iV x.season.op,iV x.season.n,iV x.season.u,.string x.season.rn,iV x.season.ri,.slice a0 x.season.args.length p0,iV x.cap.op,iV x.cap.n,iV x.cap.u,.string x.cap.rn,iV x.cap.ri,.slice a1 x.cap.args.length p1,iV x.start.op,iV x.start.n,iV x.start.u,.string x.start.rn,iV x.start.ri,.slice a2 x.start.args.length p2,.slice Z a6 a7,.slice L.crops.a L.crops.n L.crops.c,.slice L.reaches.a L.reaches.n L.reaches.c,.slice L.farms.a L.farms.n L.farms.c,.slice L.rots.a L.rots.n L.rots.c,.slice L.rights.a L.rights.n L.rights.c,.slice L.duties.a L.duties.n L.duties.c] 35 (0,0))):=yb (by
  have:=za bv w.heap.size 19 _ _ (.slice Z a6 a7) aw.o
  rw[this];rfl)
 replace E:=yb (E.o.up (fun b hB f=>(Af (.slice Z a6 a7) hc).1.block b f (fun e=>by cases e;have:=aa.o;omega)))
 replace C:=yb (C.o.up (fun b hB f=>(Af (.slice Z a6 a7) hc).1.block b f (fun e=>by cases e;have:=aa.o;omega)))
 replace A:=yb (A.o.up (fun b hB f=>(Af (.slice Z a6 a7) hc).1.block b f (fun e=>by cases e;have:=aa.o;omega)))
 replace X:=yb (X.o.up (fun b hB f=>(Af (.slice Z a6 a7) hc).1.block b f (fun e=>by cases e;have:=aa.o;omega)))
 have et:=yb (AW dr.o (Af (.slice Z a6 a7) hc).1)
 clear hc hf
 generalize bv.setCell (aV w.heap.size 19) (.slice Z a6 a7)=ci at*
 refine hK.o _ _ (by first|(intro h;cases h;done)|exact fun _=>aw.o) ?_
 clear hK K
 refine A0 (i:=14) (v:=pV w.heap.size 20) rfl (by kernel_rfl) (by kernel_rfl) (by kernel_rfl) (fun _ _ _ h=>h) (by kernel_rfl) (Or.inl ⟨by rfl,?_⟩) (by first|exact fun _=>bz.o|(intro h;cases h)) ?_
 ·intro w _;go_simp
 refine A3 (i:=15) (by kernel_rfl) rfl (fun K hK=>?_)
 have hc:ci.cell? (aV w.heap.size 20)=some (.slice L.crops.a L.crops.n L.crops.c):=by simp only[World.cell?,bz.o];rfl
 have hf:ci.frozen? (aV w.heap.size 20)=false:=by simp[World.frozen?,bz.o]
 go_simp
 have bu:Hid ((ci.setCell (aV w.heap.size 20) (.slice F G H)).heap[w.heap.size]?=some (.cells #[.string x.name,iV x.season.op,iV x.season.n,iV x.season.u,.string x.season.rn,iV x.season.ri,.slice a0 x.season.args.length p0,iV x.cap.op,iV x.cap.n,iV x.cap.u,.string x.cap.rn,iV x.cap.ri,.slice a1 x.cap.args.length p1,iV x.start.op,iV x.start.n,iV x.start.u,.string x.start.rn,iV x.start.ri,.slice a2 x.start.args.length p2,.slice Z a6 a7,.slice F G H,.slice L.reaches.a L.reaches.n L.reaches.c,.slice L.farms.a L.farms.n L.farms.c,.slice L.rots.a L.rots.n L.rots.c,.slice L.rights.a L.rights.n L.rights.c,.slice L.duties.a L.duties.n L.duties.c] 35 (0,0))):=yb (by
  have:=za ci w.heap.size 20 _ _ (.slice F G H) bz.o
  rw[this];rfl)
 replace E:=yb (E.o.up (fun b hB f=>(Af (.slice F G H) hc).1.block b f (fun e=>by cases e;have:=aa.o;omega)))
 replace C:=yb (C.o.up (fun b hB f=>(Af (.slice F G H) hc).1.block b f (fun e=>by cases e;have:=aa.o;omega)))
 replace A:=yb (A.o.up (fun b hB f=>(Af (.slice F G H) hc).1.block b f (fun e=>by cases e;have:=aa.o;omega)))
 replace X:=yb (X.o.up (fun b hB f=>(Af (.slice F G H) hc).1.block b f (fun e=>by cases e;have:=aa.o;omega)))
 have ej:=yb (AW et.o (Af (.slice F G H) hc).1)
 clear hc hf
 generalize ci.setCell (aV w.heap.size 20) (.slice F G H)=co at*
 refine hK.o _ _ (by first|(intro h;cases h;done)|exact fun _=>bz.o) ?_
 clear hK K
 refine A0 (i:=16) (v:=pV w.heap.size 21) rfl (by kernel_rfl) (by kernel_rfl) (by kernel_rfl) (fun _ _ _ h=>h) (by kernel_rfl) (Or.inl ⟨by rfl,?_⟩) (by first|exact fun _=>bu.o|(intro h;cases h)) ?_
 ·intro w _;go_simp
 refine A3 (i:=17) (by kernel_rfl) rfl (fun K hK=>?_)
 have hc:co.cell? (aV w.heap.size 21)=some (.slice L.reaches.a L.reaches.n L.reaches.c):=by simp only[World.cell?,bu.o];rfl
 have hf:co.frozen? (aV w.heap.size 21)=false:=by simp[World.frozen?,bu.o]
 go_simp
 have bt:Hid ((co.setCell (aV w.heap.size 21) (.slice m l y)).heap[w.heap.size]?=some (.cells #[.string x.name,iV x.season.op,iV x.season.n,iV x.season.u,.string x.season.rn,iV x.season.ri,.slice a0 x.season.args.length p0,iV x.cap.op,iV x.cap.n,iV x.cap.u,.string x.cap.rn,iV x.cap.ri,.slice a1 x.cap.args.length p1,iV x.start.op,iV x.start.n,iV x.start.u,.string x.start.rn,iV x.start.ri,.slice a2 x.start.args.length p2,.slice Z a6 a7,.slice F G H,.slice m l y,.slice L.farms.a L.farms.n L.farms.c,.slice L.rots.a L.rots.n L.rots.c,.slice L.rights.a L.rights.n L.rights.c,.slice L.duties.a L.duties.n L.duties.c] 35 (0,0))):=yb (by
  have:=za co w.heap.size 21 _ _ (.slice m l y) bu.o
  rw[this];rfl)
 replace E:=yb (E.o.up (fun b hB f=>(Af (.slice m l y) hc).1.block b f (fun e=>by cases e;have:=aa.o;omega)))
 replace C:=yb (C.o.up (fun b hB f=>(Af (.slice m l y) hc).1.block b f (fun e=>by cases e;have:=aa.o;omega)))
 replace A:=yb (A.o.up (fun b hB f=>(Af (.slice m l y) hc).1.block b f (fun e=>by cases e;have:=aa.o;omega)))
 replace X:=yb (X.o.up (fun b hB f=>(Af (.slice m l y) hc).1.block b f (fun e=>by cases e;have:=aa.o;omega)))
 have fb:=yb (AW ej.o (Af (.slice m l y) hc).1)
 clear hc hf
 generalize co.setCell (aV w.heap.size 21) (.slice m l y)=cx at*
 refine hK.o _ _ (by first|(intro h;cases h;done)|exact fun _=>bu.o) ?_
 clear hK K
 refine A0 (i:=18) (v:=pV w.heap.size 22) rfl (by kernel_rfl) (by kernel_rfl) (by kernel_rfl) (fun _ _ _ h=>h) (by kernel_rfl) (Or.inl ⟨by rfl,?_⟩) (by first|exact fun _=>bt.o|(intro h;cases h)) ?_
 ·intro w _;go_simp
 refine A3 (i:=19) (by kernel_rfl) rfl (fun K hK=>?_)
 have hc:cx.cell? (aV w.heap.size 22)=some (.slice L.farms.a L.farms.n L.farms.c):=by simp only[World.cell?,bt.o];rfl
 have hf:cx.frozen? (aV w.heap.size 22)=false:=by simp[World.frozen?,bt.o]
 go_simp
 have eb:Hid ((cx.setCell (aV w.heap.size 22) (.slice T nfarms S)).heap[w.heap.size]?=some (.cells #[.string x.name,iV x.season.op,iV x.season.n,iV x.season.u,.string x.season.rn,iV x.season.ri,.slice a0 x.season.args.length p0,iV x.cap.op,iV x.cap.n,iV x.cap.u,.string x.cap.rn,iV x.cap.ri,.slice a1 x.cap.args.length p1,iV x.start.op,iV x.start.n,iV x.start.u,.string x.start.rn,iV x.start.ri,.slice a2 x.start.args.length p2,.slice Z a6 a7,.slice F G H,.slice m l y,.slice T nfarms S,.slice L.rots.a L.rots.n L.rots.c,.slice L.rights.a L.rights.n L.rights.c,.slice L.duties.a L.duties.n L.duties.c] 35 (0,0))):=yb (by
  have:=za cx w.heap.size 22 _ _ (.slice T nfarms S) bt.o
  rw[this];rfl)
 replace E:=yb (E.o.up (fun b hB f=>(Af (.slice T nfarms S) hc).1.block b f (fun e=>by cases e;have:=aa.o;omega)))
 replace C:=yb (C.o.up (fun b hB f=>(Af (.slice T nfarms S) hc).1.block b f (fun e=>by cases e;have:=aa.o;omega)))
 replace A:=yb (A.o.up (fun b hB f=>(Af (.slice T nfarms S) hc).1.block b f (fun e=>by cases e;have:=aa.o;omega)))
 replace X:=yb (X.o.up (fun b hB f=>(Af (.slice T nfarms S) hc).1.block b f (fun e=>by cases e;have:=aa.o;omega)))
 have ez:=yb (AW fb.o (Af (.slice T nfarms S) hc).1)
 clear hc hf
 generalize cx.setCell (aV w.heap.size 22) (.slice T nfarms S)=ew at*
 refine hK.o _ _ (by first|(intro h;cases h;done)|exact fun _=>bt.o) ?_
 clear hK K
 refine BS (by kernel_rfl) ?_
 refine NoPanic.normal ?_
 simp only[Exit.then]
 refine Ad (A6 ?_)
 refine wp_region_noPanic ?_
 have f2:ew.drew.heap[w.heap.size]?=some (.cells #[.string x.name,iV x.season.op,iV x.season.n,iV x.season.u,.string x.season.rn,iV x.season.ri,.slice a0 x.season.args.length p0,iV x.cap.op,iV x.cap.n,iV x.cap.u,.string x.cap.rn,iV x.cap.ri,.slice a1 x.cap.args.length p1,iV x.start.op,iV x.start.n,iV x.start.u,.string x.start.rn,iV x.start.ri,.slice a2 x.start.args.length p2,.slice Z a6 a7,.slice F G H,.slice m l y,.slice T nfarms S,.slice L.rots.a L.rots.n L.rots.c,.slice L.rights.a L.rights.n L.rights.c,.slice L.duties.a L.duties.n L.duties.c] 35 (0,0)):=eb.o
 have c9:=yb f2
 clear f2
 refine BT (by kernel_rfl) (fun W=>W.heap[w.heap.size]?=some (.cells #[.string x.name,iV x.season.op,iV x.season.n,iV x.season.u,.string x.season.rn,iV x.season.ri,.slice a0 x.season.args.length p0,iV x.cap.op,iV x.cap.n,iV x.cap.u,.string x.cap.rn,iV x.cap.ri,.slice a1 x.cap.args.length p1,iV x.start.op,iV x.start.n,iV x.start.u,.string x.start.rn,iV x.start.ri,.slice a2 x.start.args.length p2,.slice Z a6 a7,.slice F G H,.slice m l y,.slice T nfarms S,.slice L.rots.a L.rots.n L.rots.c,.slice L.rights.a L.rights.n L.rights.c,.slice L.duties.a L.duties.n L.duties.c] 35 (0,0))) 10 ?_
 refine A0 (i:=0) (v:=pV w.heap.size 23) rfl (by kernel_rfl) (by kernel_rfl) (by kernel_rfl) (fun _ _ _ h=>h) (by kernel_rfl) (Or.inl ⟨by rfl,?_⟩) (fun _=>c9.o) ?_
 ·intro w _;go_simp
 refine Ae (i:=1) (v:=.slice L.rots.a L.rots.n L.rots.c) rfl (by kernel_rfl) (by kernel_rfl) (by kernel_rfl) (fun _ _ _ h=>h) (by kernel_rfl) (Or.inl ⟨by rfl,?_⟩) c9.o ?_
 ·intro W hW
  have hc:W.cell? (aV w.heap.size 23)=some (.slice L.rots.a L.rots.n L.rots.c):=by simp only[World.cell?,hW];rfl
  clear hW
  go_simp
 refine A0 (i:=3) (v:=pV w.heap.size 24) rfl (by kernel_rfl) (by kernel_rfl) (by kernel_rfl) (fun _ _ _ h=>h) (by kernel_rfl) (Or.inl ⟨by rfl,?_⟩) (fun _=>c9.o) ?_
 ·intro w _;go_simp
 refine Ae (i:=4) (v:=.slice L.rights.a L.rights.n L.rights.c) rfl (by kernel_rfl) (by kernel_rfl) (by kernel_rfl) (fun _ _ _ h=>h) (by kernel_rfl) (Or.inl ⟨by rfl,?_⟩) c9.o ?_
 ·intro W hW
  have hc:W.cell? (aV w.heap.size 24)=some (.slice L.rights.a L.rights.n L.rights.c):=by simp only[World.cell?,hW];rfl
  clear hW
  go_simp
 refine A0 (i:=6) (v:=pV w.heap.size 25) rfl (by kernel_rfl) (by kernel_rfl) (by kernel_rfl) (fun _ _ _ h=>h) (by kernel_rfl) (Or.inl ⟨by rfl,?_⟩) (fun _=>c9.o) ?_
 ·intro w _;go_simp
 refine Ae (i:=7) (v:=.slice L.duties.a L.duties.n L.duties.c) rfl (by kernel_rfl) (by kernel_rfl) (by kernel_rfl) (fun _ _ _ h=>h) (by kernel_rfl) (Or.inl ⟨by rfl,?_⟩) c9.o ?_
 ·intro W hW
  have hc:W.cell? (aV w.heap.size 25)=some (.slice L.duties.a L.duties.n L.duties.c):=by simp only[World.cell?,hW];rfl
  clear hW
  go_simp
 have bd:Hid (W1.grownBy ew.drew (some w.heap.size)):=yb (Kg ez.o)
 refine A3 (i:=2) (by kernel_rfl) rfl (fun K hK=>?_)
 go_simp
 refine (Q2 (Q:=(fun cs (d:B7 × Nat)=>Gg N w (A4 L d.2) cs d.1)) (Rg (HV.o.rots) (bs.o _ bd.o)) (bm.o _ bd.o) Re (by rw[zA];exact b3.o.rots)).mono ?_
 rintro e dd ⟨⟨a8,nrots,Y⟩,rfl,bo,aj,b4⟩
 rw[show Av.v ⟨a8,nrots,Y⟩=Value.slice a8 nrots Y from rfl]
 simp only at bo b4
 have bj:Hid (W1.grownBy dd (some w.heap.size)):=yb (AW bd.o (BU aj))
 have cr:Hid (dd.heap[w.heap.size]?=some (.cells #[.string x.name,iV x.season.op,iV x.season.n,iV x.season.u,.string x.season.rn,iV x.season.ri,.slice a0 x.season.args.length p0,iV x.cap.op,iV x.cap.n,iV x.cap.u,.string x.cap.rn,iV x.cap.ri,.slice a1 x.cap.args.length p1,iV x.start.op,iV x.start.n,iV x.start.u,.string x.start.rn,iV x.start.ri,.slice a2 x.start.args.length p2,.slice Z a6 a7,.slice F G H,.slice m l y,.slice T nfarms S,.slice L.rots.a L.rots.n L.rots.c,.slice L.rights.a L.rights.n L.rights.c,.slice L.duties.a L.duties.n L.duties.c] 35 (0,0))):=yb ((aj.block _ (by have:=bd.o.size;have:=aa.o;omega)).trans c9.o)
 replace E:=yb (E.o.up (fun b _ f=>aj.block b f))
 replace C:=yb (C.o.up (fun b _ f=>aj.block b f))
 replace A:=yb (A.o.up (fun b _ f=>aj.block b f))
 replace X:=yb (X.o.up (fun b _ f=>aj.block b f))
 have ab:Hid (Gz W1.heap.size dd 64 23 (fun cs (d:B7 × Nat)=>Gg N w (A4 L d.2) cs d.1) ⟨a8,nrots,Y⟩ x.rots.zipIdx):=yb (Gz.of bo (by exact bd.o.size) b4)
 clear bo aj b4
 refine hK.o _ _ (fun _=>cr.o) ?_
 clear hK K
 refine A3 (i:=5) (by kernel_rfl) rfl (fun K hK=>?_)
 go_simp
 refine (N6 (HV.o.rights.same (fun _ h=>h) (bs.o _ bj.o) (fun _ _ h=>h)) (bm.o _ bj.o) IJ b3.o.rights).mono ?_
 rintro e di ⟨⟨J,nrights,I⟩,rfl,av,af,al⟩
 rw[show Av.v ⟨J,nrights,I⟩=Value.slice J nrights I from rfl]
 simp only at av al
 have be:Hid (W1.grownBy di (some w.heap.size)):=yb (AW bj.o (BU af))
 have cp:Hid (di.heap[w.heap.size]?=some (.cells #[.string x.name,iV x.season.op,iV x.season.n,iV x.season.u,.string x.season.rn,iV x.season.ri,.slice a0 x.season.args.length p0,iV x.cap.op,iV x.cap.n,iV x.cap.u,.string x.cap.rn,iV x.cap.ri,.slice a1 x.cap.args.length p1,iV x.start.op,iV x.start.n,iV x.start.u,.string x.start.rn,iV x.start.ri,.slice a2 x.start.args.length p2,.slice Z a6 a7,.slice F G H,.slice m l y,.slice T nfarms S,.slice L.rots.a L.rots.n L.rots.c,.slice L.rights.a L.rights.n L.rights.c,.slice L.duties.a L.duties.n L.duties.c] 35 (0,0))):=yb ((af.block _ (by have:=bj.o.size;have:=aa.o;omega)).trans cr.o)
 replace E:=yb (E.o.up (fun b _ f=>af.block b f))
 replace C:=yb (C.o.up (fun b _ f=>af.block b f))
 replace A:=yb (A.o.up (fun b _ f=>af.block b f))
 replace X:=yb (X.o.up (fun b _ f=>af.block b f))
 replace ab:=yb (ab.o.up (fun b _ f=>af.block b f))
 have ac:Hid (Gz W1.heap.size di 68 37 (CH N w) ⟨J,nrights,I⟩ x.rights):=yb (Gz.of av (by exact bj.o.size) al)
 clear av af al
 refine hK.o _ _ (fun _=>cp.o) ?_
 clear hK K
 refine A3 (i:=8) (by kernel_rfl) rfl (fun K hK=>?_)
 go_simp
 refine (Ou (HV.o.duties.same (fun _ h=>h) (bs.o _ be.o) (fun _ _ h=>h)) (bm.o _ be.o) N3 b3.o.duties).mono ?_
 rintro e c3 ⟨⟨P,nduties,R⟩,rfl,au,ad,am⟩
 rw[show Av.v ⟨P,nduties,R⟩=Value.slice P nduties R from rfl]
 simp only at au am
 have dm:Hid (W1.grownBy c3 (some w.heap.size)):=yb (AW be.o (BU ad))
 have az:Hid (c3.heap[w.heap.size]?=some (.cells #[.string x.name,iV x.season.op,iV x.season.n,iV x.season.u,.string x.season.rn,iV x.season.ri,.slice a0 x.season.args.length p0,iV x.cap.op,iV x.cap.n,iV x.cap.u,.string x.cap.rn,iV x.cap.ri,.slice a1 x.cap.args.length p1,iV x.start.op,iV x.start.n,iV x.start.u,.string x.start.rn,iV x.start.ri,.slice a2 x.start.args.length p2,.slice Z a6 a7,.slice F G H,.slice m l y,.slice T nfarms S,.slice L.rots.a L.rots.n L.rots.c,.slice L.rights.a L.rights.n L.rights.c,.slice L.duties.a L.duties.n L.duties.c] 35 (0,0))):=yb ((ad.block _ (by have:=be.o.size;have:=aa.o;omega)).trans cp.o)
 replace E:=yb (E.o.up (fun b _ f=>ad.block b f))
 replace C:=yb (C.o.up (fun b _ f=>ad.block b f))
 replace A:=yb (A.o.up (fun b _ f=>ad.block b f))
 replace X:=yb (X.o.up (fun b _ f=>ad.block b f))
 replace ab:=yb (ab.o.up (fun b _ f=>ad.block b f))
 replace ac:=yb (ac.o.up (fun b _ f=>ad.block b f))
 have ae:Hid (Gz W1.heap.size c3 70 11 (DF N w) ⟨P,nduties,R⟩ x.duties):=yb (Gz.of au (by exact be.o.size) am)
 clear au ad am
 refine hK.o _ _ (fun _=>az.o) ?_
 clear hK K
 refine A0 (i:=9) (v:=pV w.heap.size 23) rfl (by kernel_rfl) (by kernel_rfl) (by kernel_rfl) (fun _ _ _ h=>h) (by kernel_rfl) (Or.inl ⟨by rfl,?_⟩) (by first|exact fun _=>az.o|(intro h;cases h)) ?_
 ·intro w _;go_simp
 refine A3 (i:=10) (by kernel_rfl) rfl (fun K hK=>?_)
 have hc:c3.cell? (aV w.heap.size 23)=some (.slice L.rots.a L.rots.n L.rots.c):=by simp only[World.cell?,az.o];rfl
 have hf:c3.frozen? (aV w.heap.size 23)=false:=by simp[World.frozen?,az.o]
 go_simp
 have bw:Hid ((c3.setCell (aV w.heap.size 23) (.slice a8 nrots Y)).heap[w.heap.size]?=some (.cells #[.string x.name,iV x.season.op,iV x.season.n,iV x.season.u,.string x.season.rn,iV x.season.ri,.slice a0 x.season.args.length p0,iV x.cap.op,iV x.cap.n,iV x.cap.u,.string x.cap.rn,iV x.cap.ri,.slice a1 x.cap.args.length p1,iV x.start.op,iV x.start.n,iV x.start.u,.string x.start.rn,iV x.start.ri,.slice a2 x.start.args.length p2,.slice Z a6 a7,.slice F G H,.slice m l y,.slice T nfarms S,.slice a8 nrots Y,.slice L.rights.a L.rights.n L.rights.c,.slice L.duties.a L.duties.n L.duties.c] 35 (0,0))):=yb (by
  have:=za c3 w.heap.size 23 _ _ (.slice a8 nrots Y) az.o
  rw[this];rfl)
 replace E:=yb (E.o.up (fun b hB f=>(Af (.slice a8 nrots Y) hc).1.block b f (fun e=>by cases e;have:=aa.o;omega)))
 replace C:=yb (C.o.up (fun b hB f=>(Af (.slice a8 nrots Y) hc).1.block b f (fun e=>by cases e;have:=aa.o;omega)))
 replace A:=yb (A.o.up (fun b hB f=>(Af (.slice a8 nrots Y) hc).1.block b f (fun e=>by cases e;have:=aa.o;omega)))
 replace X:=yb (X.o.up (fun b hB f=>(Af (.slice a8 nrots Y) hc).1.block b f (fun e=>by cases e;have:=aa.o;omega)))
 replace ab:=yb (ab.o.up (fun b hB f=>(Af (.slice a8 nrots Y) hc).1.block b f (fun e=>by cases e;have:=aa.o;omega)))
 replace ac:=yb (ac.o.up (fun b hB f=>(Af (.slice a8 nrots Y) hc).1.block b f (fun e=>by cases e;have:=aa.o;omega)))
 replace ae:=yb (ae.o.up (fun b hB f=>(Af (.slice a8 nrots Y) hc).1.block b f (fun e=>by cases e;have:=aa.o;omega)))
 have eh:=yb (AW dm.o (Af (.slice a8 nrots Y) hc).1)
 clear hc hf
 generalize c3.setCell (aV w.heap.size 23) (.slice a8 nrots Y)=cy at*
 refine hK.o _ _ (by first|(intro h;cases h;done)|exact fun _=>az.o) ?_
 clear hK K
 refine A0 (i:=11) (v:=pV w.heap.size 24) rfl (by kernel_rfl) (by kernel_rfl) (by kernel_rfl) (fun _ _ _ h=>h) (by kernel_rfl) (Or.inl ⟨by rfl,?_⟩) (by first|exact fun _=>bw.o|(intro h;cases h)) ?_
 ·intro w _;go_simp
 refine A3 (i:=12) (by kernel_rfl) rfl (fun K hK=>?_)
 have hc:cy.cell? (aV w.heap.size 24)=some (.slice L.rights.a L.rights.n L.rights.c):=by simp only[World.cell?,bw.o];rfl
 have hf:cy.frozen? (aV w.heap.size 24)=false:=by simp[World.frozen?,bw.o]
 go_simp
 have c4:Hid ((cy.setCell (aV w.heap.size 24) (.slice J nrights I)).heap[w.heap.size]?=some (.cells #[.string x.name,iV x.season.op,iV x.season.n,iV x.season.u,.string x.season.rn,iV x.season.ri,.slice a0 x.season.args.length p0,iV x.cap.op,iV x.cap.n,iV x.cap.u,.string x.cap.rn,iV x.cap.ri,.slice a1 x.cap.args.length p1,iV x.start.op,iV x.start.n,iV x.start.u,.string x.start.rn,iV x.start.ri,.slice a2 x.start.args.length p2,.slice Z a6 a7,.slice F G H,.slice m l y,.slice T nfarms S,.slice a8 nrots Y,.slice J nrights I,.slice L.duties.a L.duties.n L.duties.c] 35 (0,0))):=yb (by
  have:=za cy w.heap.size 24 _ _ (.slice J nrights I) bw.o
  rw[this];rfl)
 replace E:=yb (E.o.up (fun b hB f=>(Af (.slice J nrights I) hc).1.block b f (fun e=>by cases e;have:=aa.o;omega)))
 replace C:=yb (C.o.up (fun b hB f=>(Af (.slice J nrights I) hc).1.block b f (fun e=>by cases e;have:=aa.o;omega)))
 replace A:=yb (A.o.up (fun b hB f=>(Af (.slice J nrights I) hc).1.block b f (fun e=>by cases e;have:=aa.o;omega)))
 replace X:=yb (X.o.up (fun b hB f=>(Af (.slice J nrights I) hc).1.block b f (fun e=>by cases e;have:=aa.o;omega)))
 replace ab:=yb (ab.o.up (fun b hB f=>(Af (.slice J nrights I) hc).1.block b f (fun e=>by cases e;have:=aa.o;omega)))
 replace ac:=yb (ac.o.up (fun b hB f=>(Af (.slice J nrights I) hc).1.block b f (fun e=>by cases e;have:=aa.o;omega)))
 replace ae:=yb (ae.o.up (fun b hB f=>(Af (.slice J nrights I) hc).1.block b f (fun e=>by cases e;have:=aa.o;omega)))
 have fm:=yb (AW eh.o (Af (.slice J nrights I) hc).1)
 clear hc hf
 generalize cy.setCell (aV w.heap.size 24) (.slice J nrights I)=cn at*
 refine hK.o _ _ (by first|(intro h;cases h;done)|exact fun _=>bw.o) ?_
 clear hK K
 refine A0 (i:=13) (v:=pV w.heap.size 25) rfl (by kernel_rfl) (by kernel_rfl) (by kernel_rfl) (fun _ _ _ h=>h) (by kernel_rfl) (Or.inl ⟨by rfl,?_⟩) (by first|exact fun _=>c4.o|(intro h;cases h)) ?_
 ·intro w _;go_simp
 refine A3 (i:=14) (by kernel_rfl) rfl (fun K hK=>?_)
 have hc:cn.cell? (aV w.heap.size 25)=some (.slice L.duties.a L.duties.n L.duties.c):=by simp only[World.cell?,c4.o];rfl
 have hf:cn.frozen? (aV w.heap.size 25)=false:=by simp[World.frozen?,c4.o]
 go_simp
 have fl:Hid ((cn.setCell (aV w.heap.size 25) (.slice P nduties R)).heap[w.heap.size]?=some (.cells #[.string x.name,iV x.season.op,iV x.season.n,iV x.season.u,.string x.season.rn,iV x.season.ri,.slice a0 x.season.args.length p0,iV x.cap.op,iV x.cap.n,iV x.cap.u,.string x.cap.rn,iV x.cap.ri,.slice a1 x.cap.args.length p1,iV x.start.op,iV x.start.n,iV x.start.u,.string x.start.rn,iV x.start.ri,.slice a2 x.start.args.length p2,.slice Z a6 a7,.slice F G H,.slice m l y,.slice T nfarms S,.slice a8 nrots Y,.slice J nrights I,.slice P nduties R] 35 (0,0))):=yb (by
  have:=za cn w.heap.size 25 _ _ (.slice P nduties R) c4.o
  rw[this];rfl)
 replace E:=yb (E.o.up (fun b hB f=>(Af (.slice P nduties R) hc).1.block b f (fun e=>by cases e;have:=aa.o;omega)))
 replace C:=yb (C.o.up (fun b hB f=>(Af (.slice P nduties R) hc).1.block b f (fun e=>by cases e;have:=aa.o;omega)))
 replace A:=yb (A.o.up (fun b hB f=>(Af (.slice P nduties R) hc).1.block b f (fun e=>by cases e;have:=aa.o;omega)))
 replace X:=yb (X.o.up (fun b hB f=>(Af (.slice P nduties R) hc).1.block b f (fun e=>by cases e;have:=aa.o;omega)))
 replace ab:=yb (ab.o.up (fun b hB f=>(Af (.slice P nduties R) hc).1.block b f (fun e=>by cases e;have:=aa.o;omega)))
 replace ac:=yb (ac.o.up (fun b hB f=>(Af (.slice P nduties R) hc).1.block b f (fun e=>by cases e;have:=aa.o;omega)))
 replace ae:=yb (ae.o.up (fun b hB f=>(Af (.slice P nduties R) hc).1.block b f (fun e=>by cases e;have:=aa.o;omega)))
 have fg:=yb (AW fm.o (Af (.slice P nduties R) hc).1)
 clear hc hf
 generalize cn.setCell (aV w.heap.size 25) (.slice P nduties R)=g5 at*
 refine hK.o _ _ (by first|(intro h;cases h;done)|exact fun _=>c4.o) ?_
 clear hK K
 refine BS (by kernel_rfl) ?_
 refine NoPanic.normal ?_
 simp only[Exit.then]
 obtain ⟨U,rfl⟩:∃z:World,z=g5:=⟨_,rfl⟩
 have HQ:=yb fl.o
 have HP:=yb fg.o
 have dx:nrots=x.rots.length:=by have:=ab.o.1;simp only[zA] at this;exact this
 have gh:nrots<=100000:=by rw[dx];exact b3.o.rots
 have d8:=yb dx
 clear dx
 have ck:U.cell? (aV w.heap.size 23)=some (.slice a8 nrots Y):=by simp only[World.cell?,HQ.o];rfl
 refine Ad (A6 ?_)
 go_wp2
 clear ck
 go_loopw [37] (fun iv wr=>∃hs:List Av,hs.length<=nrots∧iv=iV (hs.length:Int)∧Hid (TL U a8 N w x.rots hs wr)) (fun iv _=>nrots - (intOf iv).toNat)
 case atStart=>exact ⟨[],yz _,rfl,yb ⟨Kf _ _,yz _,fun _ _ _ h=>h,fun _ _ _ _=>rfl,fun j hj=>by simp at hj⟩⟩
 case round=>
  obtain ⟨hs,hi,rfl,ag⟩:=hrel
  obtain ⟨i,ce⟩:∃i,i=hs.length:=⟨_,rfl⟩
  rw[<-ce] at hi ⊢
  by_cases f:i < nrots
  ·have g7:i < x.rots.zipIdx.length:=by rw[zA,<-d8.o];exact f
   have cb:i < x.rots.length:=by rw[<-d8.o];exact f
   obtain ⟨g,cs,ha,ev,c6,ax,fe,cw⟩:=ab.o.2 i g7
   simp only at ha
   subst ha
   rw[xv] at cw
   simp only[yA] at cw
   have d0:=Lj cw ax
   have hz:=aa.o
   have fj:wr.cell? (aV g (i*23+22))=some (.slice (A4 L i).a (A4 L i).n (A4 L i).c):=(ag.o.cells g rfl _ (fun j hj=>by omega)).trans (fe 22 _ d0)
   have ei:wr.heap[w.heap.size]?=some (.cells #[.string x.name,iV x.season.op,iV x.season.n,iV x.season.u,.string x.season.rn,iV x.season.ri,.slice a0 x.season.args.length p0,iV x.cap.op,iV x.cap.n,iV x.cap.u,.string x.cap.rn,iV x.cap.ri,.slice a1 x.cap.args.length p1,iV x.start.op,iV x.start.n,iV x.start.u,.string x.start.rn,iV x.start.ri,.slice a2 x.start.args.length p2,.slice Z a6 a7,.slice F G H,.slice m l y,.slice T nfarms S,.slice (some (aV g 0)) nrots Y,.slice J nrights I,.slice P nduties R] 35 (0,0)):=(ag.o.grown.block _ (by have:=HP.o.size;omega) (fun e=>by rw[F6 cb] at e;cases e;omega)).trans HQ.o
   have f9:∀V:World,Below wr.heap.size wr V->V.frozen? (aV g (i*23+22))=false:=fun V hV=>(Ty.same (ag.o.ty g rfl _ c6) (hV.block g (yp c6.lt ag.o.grown.size))).frozen
   have cg:=Rd cw
   have fp:∀b,N b->wr.heap[b]?=w.heap[b]?:=fun b hb=>(ag.o.grown.block b (bm.o _ HP.o b hb) (fun e=>by rw[F6 cb] at e;cases e;have:=HN.o _ hb;omega)).trans (bs.o _ HP.o b hb)
   have ep:∀b,N b->b < wr.drew.heap.size:=fun b hb=>yp (bm.o _ HP.o b hb) ag.o.grown.size
   have d7:=yb (Ov (w:=wr.drew) (cg.same (fun _ h=>h) fp (fun _ _ h=>h)) ep QX (b3.o.turns _ (yy cb)))
   have bg:Hid (wr.drew.heap[w.heap.size]?=some (.cells #[.string x.name,iV x.season.op,iV x.season.n,iV x.season.u,.string x.season.rn,iV x.season.ri,.slice a0 x.season.args.length p0,iV x.cap.op,iV x.cap.n,iV x.cap.u,.string x.cap.rn,iV x.cap.ri,.slice a1 x.cap.args.length p1,iV x.start.op,iV x.start.n,iV x.start.u,.string x.start.rn,iV x.start.ri,.slice a2 x.start.args.length p2,.slice Z a6 a7,.slice F G H,.slice m l y,.slice T nfarms S,.slice (some (aV g 0)) nrots Y,.slice J nrights I,.slice P nduties R] 35 (0,0))∧wr.drew.cell? (aV g (i*23+22))=some (.slice (A4 L i).a (A4 L i).n (A4 L i).c)):=yb ⟨ei,fj⟩
   have gg:=yb f9
   have gb:Hid (g < U.heap.size):=yb c6.lt
   have fd:Hid (g < wr.heap.size∧w.heap.size < wr.heap.size):=yb ⟨yp c6.lt ag.o.grown.size,by have:=HP.o.size;have:=ag.o.grown.size;omega⟩
   have dp:=yb ce
   have eg:=yb cb
   have fz:(i:Int) < (nrots:Int):=by omega
   clear ev c6 ax fe cw d0 ei f9 cg fp ep ce hz fj
   go_upto_region 6 with fail
   refine wp_region_noPanic ?_
   refine BT (by kernel_rfl) (fun W=>W.heap[w.heap.size]?=some (.cells #[.string x.name,iV x.season.op,iV x.season.n,iV x.season.u,.string x.season.rn,iV x.season.ri,.slice a0 x.season.args.length p0,iV x.cap.op,iV x.cap.n,iV x.cap.u,.string x.cap.rn,iV x.cap.ri,.slice a1 x.cap.args.length p1,iV x.start.op,iV x.start.n,iV x.start.u,.string x.start.rn,iV x.start.ri,.slice a2 x.start.args.length p2,.slice Z a6 a7,.slice F G H,.slice m l y,.slice T nfarms S,.slice (some (aV g 0)) nrots Y,.slice J nrights I,.slice P nduties R] 35 (0,0))∧W.cell? (aV g (i*23+22))=some (.slice (A4 L i).a (A4 L i).n (A4 L i).c)) 12 ?_
   refine A0 (i:=0) (v:=pV w.heap.size 23) rfl (by kernel_rfl) (by kernel_rfl) (by kernel_rfl) (fun _ _ _ h=>h) (by kernel_rfl) (Or.inl ⟨by rfl,?_⟩) (fun _=>bg.o) ?_
   ·intro w _;go_simp
   refine Ae (i:=1) (v:=.slice (some (aV g 0)) nrots Y) rfl (by kernel_rfl) (by kernel_rfl) (by kernel_rfl) (fun _ _ _ h=>h) (by kernel_rfl) (Or.inl ⟨by rfl,?_⟩) bg.o ?_
   ·rintro W ⟨hW,ff⟩
    have hc:W.cell? (aV w.heap.size 23)=some (.slice (some (aV g 0)) nrots Y):=by simp only[World.cell?,hW];rfl
    clear hW
    go_simp
   refine A0 (i:=2) (v:=iV (i:Int)) rfl (by kernel_rfl) (by kernel_rfl) (by kernel_rfl) (fun _ _ _ h=>h) (by kernel_rfl) (Or.inl ⟨by rfl,?_⟩) (fun _=>bg.o) ?_
   ·intro w _;go_simp
   refine A0 (i:=3) (v:=pV w.heap.size 23) rfl (by kernel_rfl) (by kernel_rfl) (by kernel_rfl) (fun _ _ _ h=>h) (by kernel_rfl) (Or.inl ⟨by rfl,?_⟩) (fun _=>bg.o) ?_
   ·intro w _;go_simp
   refine Ae (i:=4) (v:=.slice (some (aV g 0)) nrots Y) rfl (by kernel_rfl) (by kernel_rfl) (by kernel_rfl) (fun _ _ _ h=>h) (by kernel_rfl) (Or.inl ⟨by rfl,?_⟩) bg.o ?_
   ·rintro W ⟨hW,ff⟩
    have hc:W.cell? (aV w.heap.size 23)=some (.slice (some (aV g 0)) nrots Y):=by simp only[World.cell?,hW];rfl
    clear hW
    go_simp
   refine A0 (i:=5) (v:=iV (i:Int)) rfl (by kernel_rfl) (by kernel_rfl) (by kernel_rfl) (fun _ _ _ h=>h) (by kernel_rfl) (Or.inl ⟨by rfl,?_⟩) (fun _=>bg.o) ?_
   ·intro w _;go_simp
   refine A0 (i:=6) (v:=pV g (i*23)) rfl (by kernel_rfl) (by kernel_rfl) (by kernel_rfl) (fun _ _ _ h=>h) (by kernel_rfl) (Or.inl ⟨by rfl,?_⟩) (fun _=>bg.o) ?_
   ·intro w _;go_simp
   refine A0 (i:=7) (v:=pV g (i*23+22)) rfl (by kernel_rfl) (by kernel_rfl) (by kernel_rfl) (fun _ _ _ h=>h) (by kernel_rfl) (Or.inl ⟨by rfl,?_⟩) (fun _=>bg.o) ?_
   ·intro w _;go_simp
   refine Ae (i:=8) (v:=.slice (A4 L i).a (A4 L i).n (A4 L i).c) rfl (by kernel_rfl) (by kernel_rfl) (by kernel_rfl) (fun _ _ _ h=>h) (by kernel_rfl) (Or.inl ⟨by rfl,?_⟩) bg.o ?_
   ·rintro W ⟨hW,ff⟩
    have hc:W.cell? (aV w.heap.size 23)=some (.slice (some (aV g 0)) nrots Y):=by simp only[World.cell?,hW];rfl
    clear hW
    go_simp
   refine A3 (i:=9) (by kernel_rfl) rfl (fun K hK=>?_)
   go_simp
   refine d7.o.mono ?_
   rintro e V ⟨⟨ta,tn,tc⟩,rfl,du,d6,c8⟩
   rw[show Av.v ⟨ta,tn,tc⟩=Value.slice ta tn tc from rfl]
   simp only at du c8
   have fv:Hid (Gz wr.heap.size V 66 8 (Dm N w) ⟨ta,tn,tc⟩ (x.rots[i]'eg.o).turns):=yb (Gz.of du (ye _) c8)
   have eq:Hid (Below wr.heap.size wr V):=yb ((yg _ _).drew.trans d6)
   have d5:Hid (V.heap[w.heap.size]?=some (.cells #[.string x.name,iV x.season.op,iV x.season.n,iV x.season.u,.string x.season.rn,iV x.season.ri,.slice a0 x.season.args.length p0,iV x.cap.op,iV x.cap.n,iV x.cap.u,.string x.cap.rn,iV x.cap.ri,.slice a1 x.cap.args.length p1,iV x.start.op,iV x.start.n,iV x.start.u,.string x.start.rn,iV x.start.ri,.slice a2 x.start.args.length p2,.slice Z a6 a7,.slice F G H,.slice m l y,.slice T nfarms S,.slice (some (aV g 0)) nrots Y,.slice J nrights I,.slice P nduties R] 35 (0,0))∧V.cell? (aV g (i*23+22))=some (.slice (A4 L i).a (A4 L i).n (A4 L i).c)):=yb ⟨(d6.block _ fd.o.2).trans bg.o.1,(d6.cell (p:=(aV g (i*23+22))) fd.o.1).trans bg.o.2⟩
   clear du d6 c8
   refine hK.o _ _ (fun _=>d5.o) ?_
   clear hK K
   refine A0 (i:=10) (v:=pV g (i*23)) rfl (by kernel_rfl) (by kernel_rfl) (by kernel_rfl) (fun _ _ _ h=>h) (by kernel_rfl) (Or.inl ⟨by rfl,?_⟩) (fun _=>d5.o) ?_
   ·intro w _;go_simp
   refine A0 (i:=11) (v:=pV g (i*23+22)) rfl (by kernel_rfl) (by kernel_rfl) (by kernel_rfl) (fun _ _ _ h=>h) (by kernel_rfl) (Or.inl ⟨by rfl,?_⟩) (fun _=>d5.o) ?_
   ·intro w _;go_simp
   refine A3 (i:=12) (by kernel_rfl) rfl (fun K hK=>?_)
   have hc:=d5.o.2
   have hf:=gg.o V eq.o
   go_simp
   have df:Hid (TL U (some (aV g 0)) N w x.rots (hs++[⟨ta,tn,tc⟩]) (V.setCell (aV g (i*23+22)) (.slice ta tn tc))):=yb (by
    obtain rfl:=dp.o
    exact ag.o.next eg.o rfl gb.o eq.o hc fv.o rfl)
   clear hc hf
   generalize V.setCell (aV g (i*23+22)) (.slice ta tn tc)=V2 at*
   refine hK.o _ _ (by intro h;cases h) ?_
   clear hK K
   refine BS (by kernel_rfl) ?_
   refine NoPanic.normal ?_
   go_wp2
   exact ⟨⟨hs++[⟨ta,tn,tc⟩],by simp;have:=dp.o;omega,by simp;have:=dp.o;omega,df⟩,by simp[intOf];omega⟩
  ·have dy:i=nrots:=by omega
   have fz:decide ((i:Int) < (nrots:Int))=false:=by simp;omega
   have hz:=aa.o
   have f5:=HP.o.size
   have bi:∀b,b < W1.heap.size->some b≠Lq x.rots a8:=fun b hb e=>by
    have h0:=Lr e
    obtain ⟨g,cs,ha,ev,_⟩:=ab.o.2 0 (by rw[zA];exact h0)
    simp only at ha
    rw[ha,F6 h0] at e
    cases e;omega
   have cz:∀b t,Ty U b t->t≠64->some b≠Lq x.rots a8:=fun b t ht cc e=>by
    have h0:=Lr e
    obtain ⟨g,cs,ha,_,c6,_⟩:=ab.o.2 0 (by rw[zA];exact h0)
    simp only at ha
    rw[ha,F6 h0] at e
    cases e
    exact cc (ht.inj c6)
   have dg:∀b,N b->wr.heap[b]?=w.heap[b]?:=fun b hb=>(ag.o.grown.block b (bm.o _ HP.o b hb) (bi b (by have:=HN.o b hb;omega))).trans (bs.o _ HP.o b hb)
   have e3:wr.heap[w.heap.size]?=some (.cells #[.string x.name,iV x.season.op,iV x.season.n,iV x.season.u,.string x.season.rn,iV x.season.ri,.slice a0 x.season.args.length p0,iV x.cap.op,iV x.cap.n,iV x.cap.u,.string x.cap.rn,iV x.cap.ri,.slice a1 x.cap.args.length p1,iV x.start.op,iV x.start.n,iV x.start.u,.string x.start.rn,iV x.start.ri,.slice a2 x.start.args.length p2,.slice Z a6 a7,.slice F G H,.slice m l y,.slice T nfarms S,.slice a8 nrots Y,.slice J nrights I,.slice P nduties R] 35 (0,0)):=(ag.o.grown.block _ (by omega) (bi _ (by omega))).trans HQ.o
   have eu:wr.heap[w.heap.size+1]?=some (.cells #[.string ⟨#[]⟩,iV 0,iV 0,iV 0,.string ⟨#[]⟩,iV 0,.slice none 0 0,iV 0,iV 0,iV 0,.string ⟨#[]⟩,iV 0,.slice none 0 0,iV 0,iV 0,iV 0,.string ⟨#[]⟩,iV 0,.slice none 0 0,.slice none 0 0,.slice none 0 0,.slice none 0 0,.slice none 0 0,.slice none 0 0,.slice none 0 0,.slice none 0 0] 35 (0,0)):=(ag.o.grown.block _ (by omega) (bi _ (by omega))).trans ((HP.o.block _ (by omega) (fun e=>by simp at e)).trans fw.o)
   have ao:∀b t,Ty U b t->t≠64->wr.heap[b]?=U.heap[b]?:=fun b t ht cc=>ag.o.grown.block b ht.lt (cz b t ht cc)
   have d4:∀i (h:i < hs.length),A4 (⟨w.heap.size,⟨Z,a6,a7⟩,⟨F,G,H⟩,⟨m,l,y⟩,⟨T,nfarms,S⟩,⟨a8,nrots,Y⟩,⟨J,nrights,I⟩,⟨P,nduties,R⟩,hs⟩:Bh) i=hs[i]:=fun i h=>by unfold A4;simp[h]
   have dt:Ch (fun g=>w.heap.size<=g∧g≠w.heap.size+1) (EV N wr) (RV wr) wr (⟨w.heap.size,⟨Z,a6,a7⟩,⟨F,G,H⟩,⟨m,l,y⟩,⟨T,nfarms,S⟩,⟨a8,nrots,Y⟩,⟨J,nrights,I⟩,⟨P,nduties,R⟩,hs⟩:Bh) x:=by
    refine OG (B:=W1.heap.size) dg (fun g hg=>by omega) b3.o e3 HV.o.name ge.o fx.o g9.o (E.o.upT fun b _ ht=>ao b _ ht (by decide)) (C.o.upT fun b _ ht=>ao b _ ht (by decide)) (A.o.upT fun b _ ht=>ao b _ ht (by decide)) (X.o.upT fun b _ ht=>ao b _ ht (by decide)) ?_ (ac.o.upT fun b _ ht=>ao b _ ht (by decide)) (ae.o.upT fun b _ ht=>ao b _ ht (by decide))
    refine R9 (L:=L) (L':=(⟨w.heap.size,⟨Z,a6,a7⟩,⟨F,G,H⟩,⟨m,l,y⟩,⟨T,nfarms,S⟩,⟨a8,nrots,Y⟩,⟨J,nrights,I⟩,⟨P,nduties,R⟩,hs⟩:Bh)) dg ab.o (fun g hg=>by omega) b3.o.rots b3.o.turns (fun g hg ht=>ag.o.ty g hg _ ht) (fun g hg i q hq=>ag.o.cells g hg _ (fun j _=>by omega)) (fun k hk g hg=>?_) (fun k hk=>?_)
    ·have cd:k < hs.length:=by rw[<-ce,dy,d8.o];exact hk
     rw[d4 k cd]
     exact (ag.o.done k cd hk).2 g hg
    ·have cd:k < hs.length:=by rw[<-ce,dy,d8.o];exact hk
     rw[d4 k cd]
     exact Gz.of (ag.o.done k cd hk).1.1 f5 (ag.o.done k cd hk).1.2
   have e6:Below w.heap.size w wr:=⟨ag.o.grown.os.trans (HP.o.os.trans cm.o.os),ag.o.grown.tape.trans (HP.o.tape.trans cm.o.tape),ag.o.grown.output.trans (HP.o.output.trans cm.o.output),by have:=ag.o.grown.size;omega,fun b hb=>(ag.o.grown.block b (by omega) (bi b (by omega))).trans ((HP.o.block b (by omega) (fun e=>by cases e;omega)).trans (cm.o.block b hb))⟩
   have fq:∀b,N b->b < w.heap.size∧b < wr.heap.size:=fun b hb=>⟨HN.o b hb,by have:=HN.o b hb;have:=e6.size;omega⟩
   generalize el:(⟨w.heap.size,⟨Z,a6,a7⟩,⟨F,G,H⟩,⟨m,l,y⟩,⟨T,nfarms,S⟩,⟨a8,nrots,Y⟩,⟨J,nrights,I⟩,⟨P,nduties,R⟩,hs⟩:Bh)=Lc at dt d4
   have fh:Lc.s=w.heap.size:=by rw[<-el]
   have dv:=yb dt;have cl:=yb e6;have d3:=yb fq;have gl:=yb e3;have ec:=yb eu;have bk:=yb fh
   have gd:=yb b3.o.exprs
   clear dt e6 fq e3 eu fh el d4 ao dg bi cz hz f5 dy ce
   iterate 2
    go_wp2
    refine Ad (A6 ?_)
   have g8:∀(fn:Fn) (first cap:Array Value) (w:World),(Instr.makeFunc fn first cap).run Try.prog w=.ok (.func fn first cap) w:=fun _ _ _ _=>rfl
   go_wp2
   refine Ad (Ad (A6 ?_))
   go_wp2_with (first|(go_at_call 67;refine (EG _ _).mono ?_;rintro e w2 ⟨rfl,rfl⟩))
   have dw:Below wr.heap.size wr ((wr.alloc (.cells #[.func (.func 79) #[] #[pV wr.heap.size 0]] 146)).alloc (.cells #[pV w.heap.size 0] 52)):=((yg _ _).alloc (ye _) _).alloc (by simp) _
   have fc:((wr.alloc (.cells #[.func (.func 79) #[] #[pV wr.heap.size 0]] 146)).alloc (.cells #[pV w.heap.size 0] 52)).cell? (aV wr.heap.size 0)=some (.func (.func 79) #[] #[pV wr.heap.size 0]):=by
    refine xU _ ?_
    have:=World.alloc_heap_new wr (.cells #[.func (.func 79) #[] #[pV wr.heap.size 0]] 146)
    simp only[World.cell?,this];simp
   have ee:((wr.alloc (.cells #[.func (.func 79) #[] #[pV wr.heap.size 0]] 146)).alloc (.cells #[pV w.heap.size 0] 52)).cell? (aV (wr.heap.size+1) 0)=some (pV w.heap.size 0):=by
    have:=World.alloc_heap_new (wr.alloc (.cells #[.func (.func 79) #[] #[pV wr.heap.size 0]] 146)) (.cells #[pV w.heap.size 0] 52)
    rw[zv] at this
    simp only[World.cell?,this];simp
   have c7:((wr.alloc (.cells #[.func (.func 79) #[] #[pV wr.heap.size 0]] 146)).alloc (.cells #[pV w.heap.size 0] 52)).heap.size=wr.heap.size+2:=by simp
   generalize (wr.alloc (.cells #[.func (.func 79) #[] #[pV wr.heap.size 0]] 146)).alloc (.cells #[pV w.heap.size 0] 52)=W4 at*
   have cj:=yb dw;have g4:=yb fc;have gf:=yb ee;have cf:=yb c7
   have dz:=dv.o.up (fun b hb=>(d3.o b hb).2) dw
   have g3:=cl.o.size
   have ch:w.heap.size+2<=wr.heap.size:=by
    have h1:=(yf.1 ec.o).1
    omega
   have hA:=dz.all2 (by rw[bk.o];exact ⟨ye _,by omega⟩)
   have e5:=dv.o.all2 (by rw[bk.o];exact ⟨ye _,by omega⟩)
   have dc:Ni N W4 Lc x:=⟨fun j b o lt hp=>(Hf hA hp).2.1,fun b hb=>⟨by have:=(d3.o b hb).2;omega,fun j o lt hp=>by have h1:=(Hf hA hp).1.1;have h2:=(d3.o b hb).1;omega⟩,fun j b o lt hp hj=>(Hf hA hp).2.2 hj⟩
   have da:∀j b o lt,FZ Lc j b o lt->w.heap.size<=b∧b < wr.heap.size:=fun j b o lt hp=>⟨(Hf e5 hp).1.1,(Hf e5 hp).2.1.lt⟩
   have eo:=yb dz;have HA:=yb hA;have b5:=yb dc;have ca:=yb da;have dq:=yb ch
   clear dw fc ee c7 dz hA e5 dc da g3 ch g8
   refine E5 ?_
   refine DD (n:=10) Try.func48 rfl (fun _ _=>rfl) (JS 9 (by omega) (wr.heap.size+1) Lc dv.o.ok) (fun a ha=>by
     obtain ⟨i,hi,rfl⟩:=zg.1 ha
     obtain ⟨b,o,h1,_⟩:=HA.o.get i hi (by rw[<-HA.o.length];exact hi)
     rw[h1];rfl)
    (Nj W4 Lc x) (fun _ _ _=>False) (fun _ _ _=>False)
    (fun k a O W=>Nj W4 Lc x k O W∧∃(b o:Nat) (lt:Int),FZ Lc k b o lt∧a={tmps:=#[.agg #[.string x.name,iV x.season.op,iV x.season.n,iV x.season.u,.string x.season.rn,iV x.season.ri,.slice a0 x.season.args.length p0,iV x.cap.op,iV x.cap.n,iV x.cap.u,.string x.cap.rn,iV x.cap.ri,.slice a1 x.cap.args.length p1,iV x.start.op,iV x.start.n,iV x.start.u,.string x.start.rn,iV x.start.ri,.slice a2 x.start.args.length p2,.slice L.lets.a L.lets.n L.lets.c,.slice L.crops.a L.crops.n L.crops.c,.slice L.reaches.a L.reaches.n L.reaches.c,.slice L.farms.a L.farms.n L.farms.c,.slice L.rots.a L.rots.n L.rots.c,.slice L.rights.a L.rights.n L.rights.c,.slice L.duties.a L.duties.n L.duties.c],pV w.heap.size 0,pV (w.heap.size+1) 0,u3,pV wr.heap.size 0,pV b o,pV w.heap.size 19,.slice L.lets.a L.lets.n L.lets.c,.slice Z a6 a7,pV w.heap.size 20,.slice L.crops.a L.crops.n L.crops.c,.slice F G H,pV w.heap.size 21,.slice L.reaches.a L.reaches.n L.reaches.c,.slice m l y,pV w.heap.size 22,.slice L.farms.a L.farms.n L.farms.c,.slice T nfarms S,pV w.heap.size 19,pV w.heap.size 20,pV w.heap.size 21,pV w.heap.size 22,pV w.heap.size 23,.slice L.rots.a L.rots.n L.rots.c,.slice a8 nrots Y,pV w.heap.size 24,.slice L.rights.a L.rights.n L.rights.c,.slice J nrights I,pV w.heap.size 25,.slice L.duties.a L.duties.n L.duties.c,.slice P nduties R,pV w.heap.size 23,pV w.heap.size 24,pV w.heap.size 25,pV w.heap.size 23,.slice a8 nrots Y,iV (nrots:Int),iV (i:Int),.bool false,u39,u40,u41,u42,u43,u44,u45,u46,u47,u48,u49,u50,u51,u52,.func (.func 79) #[] #[pV wr.heap.size 0],.func (.func 89) #[] #[pV (wr.heap.size+1) 0],pV b o,iV lt,undef,undef,undef,undef],defers:=[]})
    Nj.stays (fun _ _ _ _ _ _ h=>h.elim) (fun _ _ _ _ _ _ h=>h.elim) ?_ ?_ (fun _ _ _ h=>h.elim) (fun _ h=>by cases h) (Nj.start W4 Lc x) ?_ ?_ ?_ (fun _ _ _ _ _ _ h=>h.elim) (fun _ _ _ _ _ _ h=>h.elim)
   ·exact fun a k O W O' W' h hz ho ht hu hk hO=>⟨Nj.stays k O W O' W' h.1 hz ho ht hu hk hO,h.2⟩
   ·intro k O W hJ
    refine eo.o.heads (fun b q hq=>by obtain ⟨t,ty,ax⟩:=hq;exact Hg b5.o hJ ty (by rw[ax];decide)) ?_
    rw[bk.o,Ac (hJ.old _ (by have:=cf.o;omega) (fun j o lt _ hp=>by have:=(ca.o j _ o lt hp).2;omega))]
    exact gf.o
   ·intro k hk O W lo hJ hO hl _
    obtain ⟨b,o,lt,hp⟩:=Rb HA.o hk
    have he:(BO Lc)[k]=#[pV b o,iV lt]:=by
     unfold FZ at hp
     rw[yk hk] at hp
     exact yh hp
    rw[he]
    have dn:=yb hJ;have e8:=yb hp
    clear hJ hO hl hp he
    gi_wp2
    first
    |exact ⟨Bv.refl _ _,dn.o,b,o,lt,e8.o,rfl⟩
    |(rename_i hK;exact hK _ _ ⟨Bv.refl _ _,dn.o,b,o,lt,e8.o,rfl⟩)
    |(rename_i hK _;exact hK _ _ ⟨Bv.refl _ _,dn.o,b,o,lt,e8.o,rfl⟩)
   ·rintro k hk O W lo a1 hl f8 fa ⟨hJ,b,o,lt,hp,rfl⟩
    have dh:k < (AL x).length:=by rw[<-HA.o.length];exact hk
    obtain ⟨M,hM,cs,hr,hv⟩:=hJ.read b5.o hp dh
    obtain ⟨t,ht,_⟩:=b5.o.epos k b o lt hp
    have hf:=ca.o k b o lt hp
    have c7:=cf.o
    have bx:W.cell? (aV wr.heap.size 0)=some (.func (.func 79) #[] #[pV wr.heap.size 0]):=(Ac (hJ.old _ (by omega) (fun j o lt _ hp=>by have:=(ca.o j _ o lt hp).2;omega))).trans g4.o
    have ed:=QY M wr.heap.size (AL x)[k].1 b o t cs W hv hr (hJ.ty b t ht) (gd.o _ (yy dh)) (fun c hc=>by
     rcases hM c hc with h1|h1
     ·have h2:=(d3.o c h1);have h3:=hJ.size;omega
     ·omega) (by omega) bx
    have gi:=yb ed
    have df:=yb (fun w3=>Nj.next (w':=w3) b5.o hJ hp dh fa)
    clear hM hr hv ht hf c7 ed hJ hp fa hl f8
    gi_wp2_with fail
    refine ⟨trivial,zm (CallsIn.inRound lo (z8.2 gi.o)) ?_⟩
    rintro e w3 ⟨rfl,ax⟩
    have ek:=yb (df.o w3 ax)
    clear ax
    gi_wp2_with fail
    first
    |exact ⟨ek.o.2,ek.o.1⟩
    |fail
   ·rintro - D O W hD f0 hJ er
    simp only[Exit.inBlock,Exit.then]
    have c7:=cf.o
    have ch:=dq.o
    have fy:=hJ.size
    have em:Ch (fun g=>w.heap.size<=g∧g≠w.heap.size+1) (fun _ _ _ _=>True) (RV W) W Lc x:=eo.o.imp (fun b t _ ht=>hJ.ty b t ht) (fun b q _ hq=>by obtain ⟨t,ty,ax⟩:=hq;exact Hg b5.o hJ ty (by rw[ax];decide)) (fun _ _ _ _ _ _ _=>trivial) (fun to r b q _ hq hr=>by
     obtain ⟨t,ty,h1,h2⟩:=hq
     exact ⟨hr.1,(Hg b5.o hJ ty (by rw[h1];decide)).trans hr.2.1,(Hg b5.o hJ ty (by rw[h2];decide)).trans hr.2.2⟩)
    have e9:=em.told (Sp (B:=fun b=>w.heap.size+2<=b∧b≠D) HA.o b5.o hJ (fun b hb hO=>⟨by omega,fun e=>hO (e▸f0)⟩))
    have f4:Ch (fun g=>w.heap.size<=g∧g≠w.heap.size+1) (EV (fun g=>w.heap.size<=g∧g≠w.heap.size+1) W) (RV W) W Lc x:=e9.imp (fun _ _ _ h=>h) (fun _ _ _ _=>rfl) (fun lt e b o _ _ hE=>by obtain ⟨c,h1,h2⟩:=hE;exact ⟨c,h1,h2.exV (fun b hb _=>by have h3:=hb.1;exact ⟨by omega,by omega⟩)⟩) (fun _ _ _ _ _ _ h=>h)
    obtain ⟨cs,ax,dj,f3⟩:=f4.srcV
    rw[bk.o] at dj
    have db:=Md f3
    have ct:∀j o lt,¬ FZ Lc j (w.heap.size+1) o lt:=fun j o lt hp=>(Hf HA.o hp).1.2 rfl
    have ef:W.heap[w.heap.size+1]?=some (.cells #[.string ⟨#[]⟩,iV 0,iV 0,iV 0,.string ⟨#[]⟩,iV 0,.slice none 0 0,iV 0,iV 0,iV 0,.string ⟨#[]⟩,iV 0,.slice none 0 0,iV 0,iV 0,iV 0,.string ⟨#[]⟩,iV 0,.slice none 0 0,.slice none 0 0,.slice none 0 0,.slice none 0 0,.slice none 0 0,.slice none 0 0,.slice none 0 0,.slice none 0 0] 35 (0,0)):=(hJ.old _ (by omega) (fun j o lt _=>ct j o lt)).trans ((cj.o.block _ (by omega)).trans ec.o)
    have dk:Hid ((Try.prog.info? 35).map (·.size)=some cs.length):=yb (by rw[ax];kernel_rfl)
    have fi:Hid ((Try.prog.info? 35).map (·.size)=some cs.toArray.size):=yb (by rw[yB];exact dk.o)
    have d7:=yb ax;have fs:=yb dj;have d9:=yb db;have ea:=yb ef;have g6:=yb e9;have f6:=yb er;have HD:=yb hD;have d1:=yb hJ
    clear em e9 f4 ax dj f3 db ct ef er hD hJ f0 c7 ch fy
    refine Ad (A6 ?_)
    go_wp2_with (first|(refine yj rfl 35 _ rfl w.heap.size 0 rfl cs _ fs.o qB rfl dk.o ?_)|(refine yX rfl 35 _ _ rfl (w.heap.size+1) cs.toArray rfl rfl 35 _ ea.o fi.o (by simp[d7.o]) (yU d9.o) ?_))
    refine A6 ?_
    go_wp2
    have cc:D≠w.heap.size+1:=by have:=HD.o;have:=cf.o;have:=dq.o;omega
    have gj:(W.setRow (w.heap.size+1) cs.toArray).heap[D]?=some (.deferred (some [])):=by
     simp only[World.setRow,yO,yu (xj cc)]
     exact f6.o
    have c5:∀ob b,b≠w.heap.size+1->b≠D->((W.setRow (w.heap.size+1) cs.toArray).putObj D ob).heap[b]?=W.heap[b]?:=fun ob b h1 h2=>by
     rw[World.putObj_heap_other h2]
     simp only[World.setRow,yO,yu (xj h1)]
    have gc:∀ob,((W.setRow (w.heap.size+1) cs.toArray).putObj D ob).heap[w.heap.size+1]?=some (.cells cs.toArray 35 (0,0)):=fun ob=>by
     rw[World.putObj_heap_other (xj cc)]
     simp[World.setRow,yO,ea.o]
    have fu:∀ob,((W.setRow (w.heap.size+1) cs.toArray).putObj D ob).rangeAt (w.heap.size+1) 0 cs:=fun ob=>by
     have:=yR (gc ob) 0 cs.length
     simpa using this
    have dl:∀ob,Lp w x (.returned (.agg cs.toArray)) ((W.setRow (w.heap.size+1) cs.toArray).putObj D ob):=fun ob=>by
     have gk:=HD.o
     have c7:=cf.o
     have ch:=dq.o
     have d2:∀b t,b≠w.heap.size+1->Ty W b t->b≠D:=fun b t _ ht e=>by
      obtain ⟨c,hc⟩:=ht
      rw[e,f6.o] at hc
      cases hc
     refine ⟨Lc,cs,rfl,d7.o,d9.o,⟨d1.o.os.trans (cj.o.os.trans cl.o.os),d1.o.tape.trans (cj.o.tape.trans cl.o.tape),d1.o.output.trans (cj.o.output.trans cl.o.output),?_,fun b hb=>?_⟩,bk.o,?_,?_⟩
     ·have h1:=d1.o.size
      have h2:((W.setRow (w.heap.size+1) cs.toArray).putObj D ob).heap.size=W.heap.size:=by simp[World.setRow]
      omega
     ·rw[c5 ob b (by omega) (by omega),d1.o.old b (by omega) (fun j o lt _ hp=>by have:=(ca.o j b o lt hp).1;omega),cj.o.block b (by omega)]
      exact cl.o.block b hb
     ·rw[bk.o]
      exact A2 fs.o (c5 ob _ (by omega) (by omega))
     ·refine g6.o.imp (fun b t hq ht=>?_) (fun b q hq hp=>?_) (fun lt e b o hq hp hE=>?_) (fun to r b o hq hp hr=>?_)
      ·have h1:b≠w.heap.size+1:=by rcases hq with hq|hq;exact hq.2;have:=bk.o;omega
       exact ht.same (c5 ob b h1 (d2 b t h1 ht))
      ·have h1:b≠w.heap.size+1:=by rcases hq with hq|hq;exact hq.2;have:=bk.o;omega
       obtain ⟨t,ty,_⟩:=hp
       exact Ac (c5 ob b h1 (d2 b t h1 ty))
      ·have h1:b≠w.heap.size+1:=by rcases hq with hq|hq;exact hq.2;have:=bk.o;omega
       obtain ⟨t,ty,_⟩:=hp
       obtain ⟨c,c1,c2⟩:=hE
       exact ⟨c,A2 c1 (c5 ob b h1 (d2 b t h1 ty)),c2.same (fun b hb _=>hb.1) (fun b hb _=>c5 ob b (by have:=hb.1;omega) hb.2)⟩
      ·have h1:b≠w.heap.size+1:=by rcases hq with hq|hq;exact hq.2;have:=bk.o;omega
       obtain ⟨t,ty,_⟩:=hp
       have h2:=c5 ob b h1 (d2 b t h1 ty)
       exact ⟨hr.1,(Ac h2).trans hr.2.1,(Ac h2).trans hr.2.2⟩
    exact ⟨by simp,.inl ⟨_,_,rfl,run_takeDeferred gj,⟨_,Gp rfl rfl (xX _ (w.heap.size+1) 0 35 cs _ (fu _) qB rfl dk.o),dl _⟩⟩⟩
end Go.Proofs.Ytghepahgkcigpaa
