/- Parts of the proof, in short words: Of Og Oh Nh Ni Qa Pa Pb Pc Pd Pg Ph Pi Pj Pk Pf -/
import Derived.Test.YtbdfinegbjdblaaGreatDoorWq0
import Derived.Test.YtbdfinegbjdblaaGreatDoorWq1
import Derived.Deep.Cut
import Derived.Deep.RegionHeld2
import Derived.StillTailTactics
import Derived.Test.YtbdfinegbjdblaaGreatDoorWq2
import Derived.BigFrameIn
import Derived.Lib.SliceRun
import Derived.Deep.RegionHeld3
set_option maxRecDepth 100000
set_option maxHeartbeats 32000000
set_option linter.unusedSimpArgs false
namespace Go.Proofs.YtbdfinegbjdblaaGreatDoor
open Go.RowKit Tryz
structure Yq (n l By Bi B0:Nat) (O:Nat->Prop) (X:List Us) (w0:World) (C:Addr->Prop) (J:Nat->(Nat->Prop)->World->Prop) (Jx:(Nat->Prop)->World->Prop) (Jp:List PanicEntry->(Nat->Prop)->World->Prop):Prop where
 stays:Cv J
 hd:∀k O W,J k O W->∀p,C p->W.cell? p=w0.cell? p
 hdx:∀O W,Jx O W->∀p,C p->W.cell? p=w0.cell? p
 round:∀k (hk:k < X.length) W,KD J O B0 l By Bi k W->YieldAt Fence.wide (n - 1) prog l X[k].v W (LL J Jx Jp O (k+1) W)
theorem RS(n:Nat)(hn:1<=n)(l By Bi B0:Nat)(lt:Int)(hlt:0<=lt/\lt<=1000000)(O:NP)(X:List Us)(w0:World)(C:Addr->Prop)(J:Nat->NP->World->Prop)(Jx:NP->World->Prop)(Jp:List PanicEntry->NP->World->Prop)
 (hc:Yq n l By Bi B0 O X w0 C J Jx Jp):∀(e:Ex) (b o:Nat) (pre:List Us) (W:World),KD J O B0 l By Bi pre.length W->TW w0 C e b o->(∃post,X=pre++((Cx w0 lt e b o).1++post))->
   ((Cx w0 lt e b o).2=false->∀W',J (pre.length+(Cx w0 lt e b o).1.length) O W'->Jp (Fg 170) O W')->
   Calls prog 100 #[.pointer (some ⟨b,o,none⟩),.int .i64 lt,.pointer (some ⟨By,0,none⟩),.pointer (some ⟨Bi,0,none⟩)] W (PT J Jx Jp O (pre.length+(Cx w0 lt e b o).1.length) (Cx w0 lt e b o).2 W):=by
 refine LX λop nn u rn ri args ih=>?_
 intro b o pre W hi hR hX hbad
 rw[TW] at hR
 obtain ⟨a,cap,⟨c0,C0⟩,⟨c5,C5⟩,hl,hrow⟩:=hR
 have HC:=yb hc
 have HI:=yb hi
 have HX:=yb hX
 have HBad:=yb hbad
 have IH:=yb ih
 have HRow:=yb hrow
 have HC5:=yb C5
 have w0c:=(hc.hd _ _ _ hi.j _ C0).trans c0
 have w5c:=(hc.hd _ _ _ hi.j _ C5).trans c5
 have y0:=hi.y.2
 have H5:=yb c5
 have a0:(W.alloc (.cells #[.pointer (some ⟨b,o+3,none⟩),.int .i64 0,.int .i64 0] 158)).cell? ⟨b,o,none⟩=some (.int .i64 op):=((yg W.heap.size W).alloc (yi _) _).cell (p:=⟨b,o,none⟩) (yU W _ w0c) |>.trans w0c
 have HE:Hid (Cx w0 lt (.mk op nn u rn ri args) b o=if PE op args.length then (⟨b,o+3,Nj op lt,RE op lt,rn,ri⟩::(BU w0 lt args (some (.slice a args.length cap)) 0).1,(BU w0 lt args (some (.slice a args.length cap)) 0).2) else ([],false)):=yb (by rw[Cx,c5])
 generalize hP:Cx w0 lt (.mk op nn u rn ri args) b o=P at*
 clear hP
 generalize hm:args.length=m at*
 have Hm:=yb hm
 clear hm hc hi hX hbad ih hrow C0 C5 c0 c5
 by_cases h1:1<=op
 rotate_left
 ·have HF:Hid (P=([],false)):=yb (by rw[HE.o];simp[PE,h1])
  go_enter func100,ntmps100
  go_wp2_with (first|(go_at_call 98;refine (CM _ _).mono ?_;rintro e w5 ⟨rfl,rfl⟩))
  exact ⟨rfl,.inr ⟨_,rfl,HBad.o (by rw[HF.o]) _ (by rw[HF.o];exact HI.o.j),B7.refl _ _⟩⟩
 by_cases h6:op<=6
 rotate_left
 ·have HF:Hid (P=([],false)):=yb (by rw[HE.o];simp[PE,h6])
  go_enter func100,ntmps100
  go_wp2_with (first|(go_at_call 98;refine (CM _ _).mono ?_;rintro e w5 ⟨rfl,rfl⟩))
  exact ⟨rfl,.inr ⟨_,rfl,HBad.o (by rw[HF.o]) _ (by rw[HF.o];exact HI.o.j),B7.refl _ _⟩⟩
 go_enter func100,ntmps100
 go_upto_if 30 with (first|(go_at_call 98;refine (CX _ _).mono ?_;rintro e w5 ⟨rfl,rfl⟩))
 go_cut [31] from 22 (λ_ w'=>Hid (Below w5.heap.size w5 w'/\w'.heap[w5.heap.size]?=some (.cells #[.pointer (some ⟨b,o+3,none⟩),.int .i64 (Nj op lt),.int .i64 (RE op lt)] 158 (0,0))))
 case first=>
  go_wp2
  all_goals
   go_meet
   exact yb ⟨(yg _ _).alloc (yi _) _,by rw[World.alloc_heap_new];simp_all[Nj,RE]<;>omega⟩
 clear a0
 have HBc:=yb hcut.o.1
 have HUc:=yb hcut.o.2
 have b0:=(HBc.o.cell (p:=⟨b,o,none⟩) (yU w5 _ w0c)).trans w0c
 have b5:=(HBc.o.cell (p:=⟨b,o+5,none⟩) (yU w5 _ w5c)).trans w5c
 have HIc:=yb (HI.o.below HC.o.stays HBc.o)
 clear hcut w0c w5c
 go_upto_if 42 with fail
 go_cut [31] from 22 (λ_ w'=>Hid (w'=wc/\PE op m=true))
 case first=>
  by_cases h3:3<=op
  ·by_cases h2:m=2
   ·have hb2:((m:Int)==2)=true:=by simp;omega
    have HOk:Hid (PE op m=true):=yb (by simp[PE,h1,h6,h3,h2])
    clear h2
    go_wp2_with (first|(go_at_call 98;refine (CX _ _).mono ?_;rintro e w6 ⟨rfl,rfl⟩))
    go_meet
    exact yb ⟨rfl,HOk.o⟩
   have hb2:((m:Int)==2)=false:=by simp;omega
   have HF:Hid (P=([],false)):=yb (by rw[HE.o];simp[PE,h3,h2])
   clear h2
   go_wp2_with (first|(go_at_call 98;refine (CM _ _).mono ?_;rintro e w6 ⟨rfl,rfl⟩))
   exact ⟨rfl,.inr ⟨_,rfl,HBad.o (by rw[HF.o]) _ (by rw[HF.o];exact HIc.o.j),HI.o.sameBelow HBc.o⟩⟩
  by_cases h2:m=0
  ·have hb2:((m:Int)==0)=true:=by simp;omega
   have HOk:Hid (PE op m=true):=yb (by simp[PE,h1,h6,h3,h2])
   clear h2
   go_wp2_with (first|(go_at_call 98;refine (CX _ _).mono ?_;rintro e w6 ⟨rfl,rfl⟩))
   go_meet
   exact yb ⟨rfl,HOk.o⟩
  have hb2:((m:Int)==0)=false:=by simp;omega
  have HF:Hid (P=([],false)):=yb (by rw[HE.o];simp[PE,h3,h2])
  clear h2
  go_wp2_with (first|(go_at_call 98;refine (CM _ _).mono ?_;rintro e w6 ⟨rfl,rfl⟩))
  exact ⟨rfl,.inr ⟨_,rfl,HBad.o (by rw[HF.o]) _ (by rw[HF.o];exact HIc.o.j),HI.o.sameBelow HBc.o⟩⟩
 obtain ⟨rfl,hok⟩:=hcut.o
 have HP:Hid (P=(⟨b,o+3,Nj op lt,RE op lt,rn,ri⟩::(BU w0 lt args (some (.slice a m cap)) 0).1,(BU w0 lt args (some (.slice a m cap)) 0).2)):=yb (by rw[HE.o,hok];rfl)
 have hk:pre.length < X.length:=by
  obtain ⟨post,hx⟩:=HX.o
  rw[hx,HP.o];simp
 have hxk:X[pre.length].v=#[.agg #[.pointer (some ⟨b,o+3,none⟩),.int .i64 (Nj op lt),.int .i64 (RE op lt)]]:=by
  obtain ⟨post,hx⟩:=HX.o
  have:X[pre.length]?=some ⟨b,o+3,Nj op lt,RE op lt,rn,ri⟩:=by rw[hx,HP.o];simp
  rw[yk hk] at this
  rw[yf this];rfl
 obtain ⟨yfn,ytmps,yassign,ybody,hy,hyR⟩:=HC.o.round pre.length hk _ HIc.o
 rw[hxk] at hy
 have HyR:=yb hyR
 have q0:wc.cell? ⟨w5.heap.size,0,none⟩=some (.pointer (some ⟨b,o+3,none⟩)):=by simp[World.cell?,HUc.o]
 have q1:wc.cell? ⟨w5.heap.size,1,none⟩=some (.int .i64 (Nj op lt)):=by simp[World.cell?,HUc.o]
 have q2:wc.cell? ⟨w5.heap.size,2,none⟩=some (.int .i64 (RE op lt)):=by simp[World.cell?,HUc.o]
 have q3:=HIc.o.y.2
 clear hk hxk hyR hcut hok
 go_upto_region 10 with fail
 refine (xV (n:=n)).1 ?_
 gi_wp2
 refine HyR.o.mono ?_
 rintro e W3 (⟨rfl,hj,hs⟩|⟨rfl,hx,hs⟩|⟨ch,rfl,hp,hs⟩)
 rotate_left
 ·have HX3:=yb hx
  have HS3:=yb ((HI.o.sameBelow HBc.o).trans hs)
  clear hx hs q0 q1 q2 q3 hy b0 b5
  gi_wp2
  go_wp2
  go_ret
  exact .inl ⟨false,rfl,HS3.o,.inr ⟨rfl,HX3.o⟩⟩
 ·exact ⟨rfl,.inr ⟨ch,rfl,hp,(HI.o.sameBelow HBc.o).trans hs⟩⟩
 have HI3:=yb (HIc.o.same hj hs)
 have HS3:=yb ((HI.o.sameBelow HBc.o).trans hs)
 have d5:=(HC.o.hd _ _ _ hj _ HC5.o).trans H5.o
 clear hj hs q0 q1 q2 q3 hy b0 b5
 gi_wp2
 go_wp2
 clear d5
 go_loopw [66] (λiv wr=>∃i:Nat,iv=.int .i64 i/\i<=m/\Hid (KD J O B0 l By Bi (pre.length+1+(BU w0 lt (args.take i) (some (.slice a m cap)) 0).1.length) wr)/\Hid (B7 O w5 wr)/\Hid ((BU w0 lt (args.take i) (some (.slice a m cap)) 0).2=true)) (λiv _=>m - (intOf iv).toNat)
 case atStart=>exact ⟨0,rfl,yC _,HI3,HS3,yb rfl⟩
 obtain ⟨i,rfl,hi,HIr,HSr,HOr⟩:=hrel
 by_cases hlt:i < m
 ·have hil:i < args.length:=by rw[Hm.o];exact hlt
  obtain ⟨b',o',rfl,hex⟩:=PS HRow.o i hil
  rw[yy] at hex
  have hn1:=TX hil HOr.o
  have HNx:=yb hn1
  have HXs:Hid (∃post,X=(pre++(⟨b,o+3,Nj op lt,RE op lt,rn,ri⟩::(BU w0 lt (args.take i) (some (.slice (some ⟨b',o',none⟩) m cap)) 0).1))++((Cx w0 lt args[i] b' (o'+i*6)).1++post)):=yb (by
   obtain ⟨post,hx⟩:=HX.o
   obtain ⟨post2,hp2⟩:=PR (w:=w0) (lt:=lt) (b:=b') (o:=o') (n:=m) (c:=cap) (args.take (i+1)) (args.drop (i+1)) 0
   rw[xN,hn1] at hp2
   refine ⟨post2++post,?_⟩
   rw[hx,HP.o]
   simp only[hp2]
   simp)
  have HBs:Hid ((Cx w0 lt args[i] b' (o'+i*6)).2=false->∀W',J ((pre++(⟨b,o+3,Nj op lt,RE op lt,rn,ri⟩::(BU w0 lt (args.take i) (some (.slice (some ⟨b',o',none⟩) m cap)) 0).1)).length+(Cx w0 lt args[i] b' (o'+i*6)).1.length) O W'->Jp (Fg 170) O W'):=yb (λhf W' hj=>by
   have hst:=O1 (w:=w0) (lt:=lt) (b:=b') (o:=o') (n:=m) (c:=cap) (args.take (i+1)) (args.drop (i+1)) 0 (by rw[hn1];exact hf)
   rw[xN,hn1] at hst
   refine HBad.o (by rw[HP.o];simp only[hst];exact hf) W' ?_
   rw[HP.o]
   simp only[hst]
   have e1:pre.length+(⟨b,o+3,Nj op lt,RE op lt,rn,ri⟩::((BU w0 lt (args.take i) (some (.slice (some ⟨b',o',none⟩) m cap)) 0).1++(Cx w0 lt args[i] b' (o'+i*6)).1)).length=(pre++(⟨b,o+3,Nj op lt,RE op lt,rn,ri⟩::(BU w0 lt (args.take i) (some (.slice (some ⟨b',o',none⟩) m cap)) 0).1)).length+(Cx w0 lt args[i] b' (o'+i*6)).1.length:=by simp;omega
   rw[e1];exact hj)
  have HCl:=yb (λ(W:World) (hW:KD J O B0 l By Bi (pre.length+1+(BU w0 lt (args.take i) (some (.slice (some ⟨b',o',none⟩) m cap)) 0).1.length) W)=>IH.o args[i] (yR hil) b' (o'+i*6) (pre++(⟨b,o+3,Nj op lt,RE op lt,rn,ri⟩::(BU w0 lt (args.take i) (some (.slice (some ⟨b',o',none⟩) m cap)) 0).1)) W (by
   have e1:(pre++(⟨b,o+3,Nj op lt,RE op lt,rn,ri⟩::(BU w0 lt (args.take i) (some (.slice (some ⟨b',o',none⟩) m cap)) 0).1)).length=pre.length+1+(BU w0 lt (args.take i) (some (.slice (some ⟨b',o',none⟩) m cap)) 0).1.length:=by simp;omega
   rw[e1];exact hW) hex HXs.o HBs.o)
  have HNl:Hid ((pre++(⟨b,o+3,Nj op lt,RE op lt,rn,ri⟩::(BU w0 lt (args.take i) (some (.slice (some ⟨b',o',none⟩) m cap)) 0).1)).length+(Cx w0 lt args[i] b' (o'+i*6)).1.length=pre.length+1+(BU w0 lt (args.take (i+1)) (some (.slice (some ⟨b',o',none⟩) m cap)) 0).1.length):=yb (by rw[hn1];simp;omega)
  have HNo:Hid ((BU w0 lt (args.take (i+1)) (some (.slice (some ⟨b',o',none⟩) m cap)) 0).2=(Cx w0 lt args[i] b' (o'+i*6)).2):=yb (by rw[hn1])
  have HIr1:=yb (HIr.o.below HC.o.stays ((yg wr.heap.size wr).drew))
  have hki:(i:Int) < (m:Int):=by omega
  have e5:=(HC.o.hd _ _ _ HIr.o.j _ HC5.o).trans H5.o
  have eB:=HIr.o.i.2
  have HS1:Hid (wr.drew.cell? ⟨Bi,0,none⟩=some (.func (.func 100) #[] #[.pointer (some ⟨By,0,none⟩),.pointer (some ⟨Bi,0,none⟩)])/\wr.drew.cell? ⟨b,o+5,none⟩=some (.slice (some ⟨b',o',none⟩) m cap)):=yb ⟨HIr1.o.i.2,(HC.o.hd _ _ _ HIr1.o.j _ HC5.o).trans H5.o⟩
  have HSd:=yb (HSr.o.trans (HIr.o.sameBelow ((yg wr.heap.size wr).drew)))
  clear hn1 hex
  go_wp2_with fail
  go_region_held2 (λw'=>w'.cell? ⟨Bi,0,none⟩=some (.func (.func 100) #[] #[.pointer (some ⟨By,0,none⟩),.pointer (some ⟨Bi,0,none⟩)])/\w'.cell? ⟨b,o+5,none⟩=some (.slice (some ⟨b',o',none⟩) m cap)) (first|exact HS1.o|exact HS2.o)
   (first|(go_at_call 100;refine (HCl.o _ HIr1.o).mono ?_;rintro e w2 (⟨r,rfl,hs2,hr⟩|⟨ch,rfl,hp,hs2⟩);rotate_left;exact ⟨rfl,.inr ⟨ch,rfl,hp,HSd.o.trans hs2⟩⟩;have HS2:=yb (And.intro (DE hs2 HIr1.o.i.1 HIr1.o.i.2) (hr.elim (λh=>(HC.o.hd _ _ _ h.2.2 _ HC5.o).trans H5.o) (λh=>(HC.o.hdx _ _ h.2 _ HC5.o).trans H5.o)));have HR:=yb hr;have HSw:=yb hs2;clear hr hs2))
  rcases HR.o with ⟨rfl,hok2,hj2⟩|⟨rfl,hx2⟩
  ·have HJ2:=yb hj2
   have HO2:=yb hok2
   clear hok2 hj2 HR e5 eB
   go_wp2
   exact ⟨⟨i+1,by push_cast;rfl,by omega,yb (by rw[<-HNl.o];exact HIr1.o.same HJ2.o HSw.o),yb (HSd.o.trans HSw.o),yb (by rw[HNo.o];exact HO2.o)⟩,by simp[intOf];omega⟩
  have HX2:=yb hx2
  clear hx2 HR e5 eB
  go_wp2
  go_ret
  exact .inl ⟨false,rfl,HSd.o.trans HSw.o,.inr ⟨rfl,HX2.o⟩⟩
 obtain rfl:i=m:=by omega
 have HFin:Hid (P.2=true/\J (pre.length+P.1.length) O wr):=yb (by
  have h1:=HOr.o
  have h2:=HIr.o.j
  rw[<-Hm.o,zA] at h1 h2
  rw[HP.o]
  simp only[yr]
  rw[Hm.o] at h1 h2
  exact ⟨h1,by rw[show pre.length+((BU w0 lt args (some (.slice a i cap)) 0).1.length+1)=pre.length+1+(BU w0 lt args (some (.slice a i cap)) 0).1.length by omega];exact h2⟩)
 have hki:decide ((i:Int) < (i:Int))=false:=by simp
 go_wp2
 go_ret
 exact .inl ⟨true,rfl,HSr.o,.inl ⟨rfl,HFin.o.1,HFin.o.2⟩⟩
def Eo(op n u:Int)(rn:ByteArray)(ri:Int)(m:Nat):Bool:=decide (op=0)&&(decide (n=0)&&(decide (u=0)&&(decide (rn.size=0/\ri=0)&&decide (m=0))))
theorem Ea(s:ByteArray):s.size=0↔s.toList=[]:=by
 rw[xJ,<-zL,Gt]
theorem L7(op b u:Int)(rn:ByteArray)(ri:Int)(a:Option Addr)(m cap:Nat)(w:World):
  Calls prog 102 #[.agg #[.int .i64 op,.int .i64 b,.int .i64 u,.string rn,.int .i64 ri,.slice a m cap]] w λe w'=>e=.returned (.bool (Eo op b u rn ri m))/\Below w.heap.size w w':=by
 by_cases h0:op=0
 ·by_cases h1:b=0
  ·by_cases h2:u=0
   ·subst h0 h1 h2
    go_enter func102,ntmps102
    go_wp2
    ·rename_i h1 h2
     go_ret
     refine ⟨Cc ?_,(yg _ _).alloc (yi _) _⟩
     simp only[Eo,xz (show rn.size=0/\ri=0 from ⟨(Ea rn).2 h1,h2⟩)]
     rw[zo];simp
    ·rename_i h1 h2
     go_ret
     refine ⟨Cc ?_,(yg _ _).alloc (yi _) _⟩
     simp only[Eo,xR (show ¬ (rn.size=0/\ri=0) from λh=>h2 h.2)]
     simp
    rename_i h1
    go_ret
    refine ⟨Cc ?_,(yg _ _).alloc (yi _) _⟩
    simp only[Eo,xR (show ¬ (rn.size=0/\ri=0) from λh=>h1 ((Ea rn).1 h.1))]
    simp
   have c:(u==0)=false:=by simpa using h2
   subst h0 h1
   go_enter func102,ntmps102
   go_wp2
   go_ret
   exact ⟨Cc (by simp[Eo,h2]),(yg _ _).alloc (yi _) _⟩
  have c:(b==0)=false:=by simpa using h1
  subst h0
  go_enter func102,ntmps102
  go_wp2
  go_ret
  exact ⟨Cc (by simp[Eo,h1]),(yg _ _).alloc (yi _) _⟩
 have c:(op==0)=false:=by simpa using h0
 go_enter func102,ntmps102
 go_wp2
 go_ret
 exact ⟨Cc (by simp[Eo,h0]),(yg _ _).alloc (yi _) _⟩
def Ce(w:World)(X:Value)(n size:Nat)(cells:LV):Prop:=
 cells.length=n*size/\(∀u∈cells,u.oneCell'=true)/\∃a cap,X=.slice a n cap/\(n=0\/∃b o,a=some ⟨b,o,none⟩/\b < w.heap.size/\∀j u,cells[j]?=some u->w.cell? ⟨b,o+j,none⟩=some u)
theorem If{t e:TypeId}{i:TypeInfo}{size:Nat}(f:prog.underlying t=some (.slice e))(hi:prog.info? e=some i)(w:World)(B:Nat)(ty:TypeId)(v:Value)(n:Nat)(xs:LV)(b:w.ownsRow B e size v n xs)(a:Option Addr)(c:Nat):
  (Builtin.append_ #[t,t] ty #[v,.slice a 0 c]).run prog w=.ok v w:=by
 rcases b.2 with ⟨rfl,_⟩|⟨g,cap,cur,rfl,_,_,d,h,_⟩
 ·cases a<;>simp[Builtin.append_,xY f,sizeOf,typeInfo,hi,Builtin.lenOf,Builtin.firstCells,loadCells,loadCellsFrom]
 cases a<;>simp[Builtin.append_,xY f,sizeOf,typeInfo,hi,Builtin.lenOf,Builtin.firstCells,storeCells,loadCells,loadCellsFrom,d]
theorem Ig{ops:Array Oper}{o:Oper}{a:Act}{K:Act->World->Prop}{Q:QT}{E:Prop}{W:World}{t e:TypeId}{q:TypeInfo}{z:Value}{size d:Nat}(P:prog.underlying t=some (.slice e))(hi:prog.info? e=some q)(A:q.zero=some z)(L:q.size=size)(C:q.bytes=d)(I:z.cells.size=size)(G:0 < size)(J:d<=64)
 (B:Nat)(N:o.guard=none)(s x:Operand)(S:o.op=.call {callee:=.builtin .append,args:=#[s,x],argTypes:=#[t,t]})(v:Value)(n:Nat)(xs:LV)(hs:a.eval s=v)(f:W.ownsRow B e size v n xs)
 (X:Value)(m:Nat)(ys:LV)(T:a.eval x=X)(V:Ce W X m size ys)(w:n+m<=1000000)(l:B<=W.heap.size)
 (h:∀(y:Option Addr) (c:Nat) w',w'.ownsRow B e size (.slice y (n+m) c) (n+m) (xs++ys)->W.grownBy w' v.ownBlock->K (a.put o.dst (.slice y (n+m) c)) w'):
  if Region.wanted o (yielded ops a.tmps)=true then Oper.wp prog o a W K Q else E:=by
 have hw:Region.wanted o (yielded ops a.tmps)=true:=by simp[Region.wanted,N]
 rw[yz hw]
 obtain ⟨p,H,y,cap,rfl,k⟩:=V
 by_cases R:m=0
 ·subst R
  obtain rfl:ys=[]:=zL.1 (by simpa using p)
  have r:=If P hi W B o.type v n xs f y cap
  obtain ⟨va,D,rfl⟩:∃a c,v=.slice a n c:=by
   rcases f.2 with ⟨rfl,M⟩|⟨g,cap,cur,rfl,_⟩
   ·exact ⟨none,0,by rw[M]⟩
   exact ⟨_,_,rfl⟩
  unfold Oper.wp
  simp[execOp,S,resolve,invoke,builtin,hs,T,r,Result.andThen]
  have O:=h va D W (by simpa using f) ⟨rfl,rfl,rfl,yi _,λ_ _ _=>rfl⟩
  rw[qC] at O
  exact O
 obtain ⟨b,F,rfl,hb,hc⟩:=k.resolve_left R
 refine wp_append_own W s x t S B e q z size d P hi A L C I G v n xs hs f (aV b F) m cap ys T p (λj u U=>?_) H (by unfold maxLen;omega) (by
  have:(n+m)*d<=1000000*64:=qD w J
  omega) l ?_
 ·rw[zO];exact hc j u U
 intro v' w' i hg _
 obtain ⟨va,D,rfl⟩:∃a c,v'=.slice a (n+m) c:=by
  rcases i.2 with ⟨rfl,M⟩|⟨g,cap,cur,rfl,_⟩
  ·exact ⟨none,0,by rw[M]⟩
  exact ⟨_,_,rfl⟩
 exact h va D w' i hg
def Bb(u:Us):LV:=[.pointer (some ⟨u.b,u.o,none⟩),.int .i64 u.to,.int .i64 u.at_]
def Di(B:Nat)(w:World)(v:Value)(us:List Us):Prop:=w.ownsRow B 158 3 v us.length (us.flatMap Bb)
theorem TY(B:Nat)(w:World):Di B w (.slice none 0 0) []:=⟨rfl,.inl ⟨rfl,rfl⟩⟩
theorem De{ops:Array Oper}{o:Oper}{a:Act}{K:Act->World->Prop}{Q:QT}{E:Prop}{W:World}(B:Nat)(m:o.guard=none)(s x:Operand)(n:o.op=.call {callee:=.builtin .append,args:=#[s,x],argTypes:=#[210,210]})
 (v:Value)(us:List Us)(hs:a.eval s=v)(f:Di B W v us)(X:Value)(ys:List Us)(p:a.eval x=X)(q:Ce W X ys.length 3 (ys.flatMap Bb))(e:us.length+ys.length<=1000000)(d:B<=W.heap.size)
 (h:∀(g:Option Addr) (c:Nat) w',Di B w' (.slice g (us.length+ys.length) c) (us++ys)->W.grownBy w' v.ownBlock->K (a.put o.dst (.slice g (us.length+ys.length) c)) w'):
  if Region.wanted o (yielded ops a.tmps)=true then Oper.wp prog o a W K Q else E:=by
 have b:(prog.info? 158).map (λi=>(i.zero,i.size,i.bytes))=some (some (.agg #[.pointer none,iV 0,iV 0]),3,24):=by kernel_rfl
 obtain ⟨r,hi,j,l,k⟩:=info_parts b
 exact Ig underlying210 hi j l k rfl (by decide) (by decide) B m s x n v us.length _ hs f X ys.length _ p q e d (λg c w' hw hg=>h g c w' (by
  unfold Di
  rw[yn,zJ]
  exact hw) hg)
theorem OR{o:Oper}{a:Act}{K:Act->World->Prop}{Q:QT}{W:World}(B:Nat)(e:o.guard=none)(s x:Operand)(j:o.op=.call {callee:=.builtin .append,args:=#[s,x],argTypes:=#[210,210]})
 (v:Value)(us:List Us)(hs:a.eval s=v)(f:Di B W v us)(X:Value)(ys:List Us)(k:a.eval x=X)(l:Ce W X ys.length 3 (ys.flatMap Bb))(d:us.length+ys.length<=1000000)(b:B<=W.heap.size)
 (h:∀(g:Option Addr) (c:Nat) w',Di B w' (.slice g (us.length+ys.length) c) (us++ys)->W.grownBy w' v.ownBlock->K (a.put o.dst (.slice g (us.length+ys.length) c)) w'):Oper.wp prog o a W K Q:=by
 have i:=De (ops:=#[]) (E:=True) (Q:=Q) B e s x j v us hs f X ys k l d b h
 rwa [yz (by simp[Region.wanted,e])] at i
theorem K7:∀us:List Us,(us.flatMap Bb).length=us.length*3
 |[]=>rfl
 |x::r=>by rw[yY,yn,K7 r,yr];simp only[Bb,yr,yK];omega
theorem Hn{w':World}{us:List Us}{b:Nat}(hb:w'.heap[b]?=some (.cells (us.flatMap Bb).toArray 158 (0,0)))(c:Nat):Ce w' (.slice (some ⟨b,0,none⟩) us.length c) us.length 3 (us.flatMap Bb):=by
 refine ⟨?_,?_,some (aV b 0),c,rfl,.inr ⟨b,0,rfl,(yd.1 hb).1,λj u e=>?_⟩⟩
 ·exact K7 us
 ·intro u d
  obtain ⟨x,_,a⟩:=zl.1 d
  simp[Bb] at a
  rcases a with rfl|rfl|rfl<;>rfl
 simp only[World.cell?,hb]
 simpa using e
def C2:List (List Us × Bool)->List Us × Bool
 |[]=>([],true)
 |x::r=>if x.2 then (x.1++(C2 r).1,(C2 r).2) else (x.1,false)
theorem Fk:∀(l m:List (List Us × Bool)),C2 (l++m)=if (C2 l).2 then ((C2 l).1++(C2 m).1,(C2 m).2) else C2 l
 |[],m=>by simp[C2]
 |x::r,m=>by
  simp only[yQ,C2,Fk r m]
  by_cases h1:x.2=true
  ·by_cases h2:(C2 r).2=true
   ·simp[h1,h2]
   simp[h1,h2]
  simp[h1]
theorem O4{l:List (List Us × Bool)}{k:Nat}(h:k < l.length)(a:(C2 (l.take k)).2=true):C2 (l.take (k+1))=((C2 (l.take k)).1++l[k].1,l[k].2):=by
 rw[yP h,Fk,a,yz rfl]
 simp only[C2]
 by_cases h1:l[k].2=true
 ·simp[h1]
 simp[h1]
theorem Vw(l:List (List Us × Bool))(k:Nat):∃post,(C2 l).1=(C2 (l.take k)).1++post:=by
 have h:=Fk (l.take k) (l.drop k)
 rw[xN] at h
 rw[h]
 by_cases h1:(C2 (l.take k)).2=true
 ·rw[yz h1];exact ⟨_,rfl⟩
 rw[ym h1];exact ⟨[],by simp⟩
theorem TZ{l:List (List Us × Bool)}{k:Nat}(h:(C2 (l.take k)).2=false):C2 l=C2 (l.take k):=by
 have h2:=Fk (l.take k) (l.drop k)
 rw[xN,h] at h2
 exact h2
def BS(e:Ex):Bool:=Eo e.op e.n e.u e.rn e.ri e.args.length
def Vx(a:Array Value):Addr:=match a.getD 0 undef with
 |.pointer (some p)=>p
 |_=>⟨0,0,none⟩
def CN(w:World)(a:Array Value)(e:M3):List Us × Bool:=if BS e.1 then ([],true) else Cx w e.2 e.1 (Vx a).block (Vx a).off
def Eb(w:World)(L:BQ)(x:AM):List (List Us × Bool):=List.zipWith (CN w) (Cd L) (Ba x)
def DA(a:Addr)(to at_:Int)(r:Rf):Us:=⟨a.block,a.off,to,at_,r.name,r.n⟩
def EW(h:AA)(l:List BG)(i:Nat):List Us:=match l[i]? with
 |some d=> [DA (h.at 12 i 1) 4 0 d.on,DA (h.at 12 i 10) (if d.river then 0 else 3) 0 d.crop]
 |none=> []
def FG(h:AA)(l:List C6)(i:Nat):List Us:=match l[i]? with
 |some d=> [DA (h.at 8 i 0) 5 0 d.farm]
 |none=> []
def Ho(L:BQ)(l:List Bq)(i:Nat):List Us:=match l[i]? with
 |some d=>DA (L.rots.at 23 i 1) 4 0 d.on::(List.range (Ac L i).n).flatMap (FG (Ac L i) d.turns)
 |none=> []
def Dr(h:AA)(l:List Bj)(i:Nat):List Us:=match l[i]? with
 |some d=> [DA (h.at 37 i 2) 5 0 d.farm,DA (h.at 37 i 4) (if d.kind=1 then 0 else 4) 0 d.reach]
 |none=> []
def EB(h:AA)(l:List CZ)(i:Nat):List Us:=match l[i]? with
 |some d=> [DA (h.at 11 i 1) 5 0 d.farm,DA (h.at 11 i 3) 4 0 d.reach]
 |none=> []
def IB(k:Int):Bool:=decide (1<=k)&&decide (k<=3)
def Cy(x:AM):Bool:=x.rights.all λd=>IB d.kind
def CD(L:BQ)(x:AM):List Us:=
 (((List.range L.farms.n).flatMap (EW L.farms x.farms)++(List.range L.rots.n).flatMap (Ho L x.rots))++(List.range L.rights.n).flatMap (Dr L.rights x.rights))++(List.range L.duties.n).flatMap (EB L.duties x.duties)
def F0(w:World)(L:BQ)(x:AM):List (List Us × Bool):=Eb w L x++[(if Cy x then CD L x else [],Cy x)]
def Ck(w:World)(L:BQ)(x:AM):List Us × Bool:=C2 (F0 w L x)
def Zp(N:NP)(w:World)(C D:Addr->Prop)(a:Array Value)(e:M3):Prop:=
 ∃b o cs,a=#[.pointer (some ⟨b,o,none⟩),.int .i64 e.2]/\w.rangeAt b o cs/\Bm N w e.1 cs/\TW w C e.1 b o/\C ⟨b,o+1,none⟩/\C ⟨b,o+2,none⟩/\C ⟨b,o+3,none⟩/\D ⟨b,o+4,none⟩/\(e.1.op=0->C ⟨b,o+4,none⟩)
structure M6 (N:Nat->Prop) (w:World) (C D:Addr->Prop) (Bu:Nat) (L:BQ) (x:AM):Prop where
 ok:L.Ok
 heads:K3 L Bu w
 box:C ⟨Bu,0,none⟩
 src:∀j,19<=j->j<=25->C ⟨L.s,j,none⟩
 turns:∀i,i < L.rots.n->C (L.rots.at 23 i 22)
 river:∀i (h:i < x.farms.length),C (L.farms.at 12 i 3)/\w.cell? (L.farms.at 12 i 3)=some (.bool x.farms[i].river)
 kind:∀i (h:i < x.rights.length),C (L.rights.at 37 i 0)/\w.cell? (L.rights.at 37 i 0)=some (.int .i64 x.rights[i].kind)
 top:B9 (Zp N w C D) (Cd L) (Ba x)
 nfarms:L.farms.n=x.farms.length
 nrots:L.rots.n=x.rots.length
 nturns:∀i (h:i < x.rots.length),(Ac L i).n=x.rots[i].turns.length
 nrights:L.rights.n=x.rights.length
 nduties:L.duties.n=x.duties.length
 few:∀e∈Ba x,0<=e.2/\e.2<=1000000
 short:(CD L x).length<=1000000
def aG(a:World)(C D:Addr->Prop)(W:World):Prop:=(∀p,C p->W.cell? p=a.cell? p)/\∀p,D p->∃z,W.cell? p=some (.int .i64 z)
theorem Fx{N:NP}{w:World}{C D:Addr->Prop}{Bu:Nat}{L:BQ}{x:AM}(h:M6 N w C D Bu L x):(Eb w L x).length=(Cd L).length:=by
 unfold Eb
 rw[List.length_zipWith,<-h.top.length];simp
theorem M7(n:Nat)(r:1<=n)(Bs:Nat)(L:BQ)(o:L.Ok):Vm Fence.wide n prog 124 #[.pointer (some ⟨Bs,0,none⟩)] (K3 L Bs) (Cd L) none:=by
 intro l J Jx Jp W m d _ c b _ a h0
 refine (zi.2 (RT n r l Bs L o J Jx Jp W ⟨m,d,c,b,λk p O g q j i=>a k p O g q j i⟩ h0)).mono ?_
 rintro e W' (⟨f,h|h⟩|h)
 ·exact .inl ⟨f,.inl ⟨rfl,h⟩⟩
 ·exact .inl ⟨f,.inr h⟩
 exact .inr h
theorem Fy(s:Nat)(w:World):Calls prog 101 #[.pointer (some ⟨s,0,none⟩)] w λx w'=>x=.returned (.func (.func 124) #[] #[.pointer (some ⟨w.heap.size,0,none⟩)])/\w'=w.alloc (.cells #[.pointer (some ⟨s,0,none⟩)] 154):=by
 have a:∀(fn:Fn) (first cap:Array Value) (w:World),(Instr.makeFunc fn first cap).run prog w=.ok (.func fn first cap) w:=λ_ _ _ _=>rfl
 go_enter func101,ntmps101
 go_wp2
 go_ret
 exact ⟨rfl,rfl⟩
end Go.Proofs.YtbdfinegbjdblaaGreatDoor
namespace Go.Proofs.YtbdfinegbjdblaaGreatDoor
open Go.RowKit Tryz
attribute [local go_sem] Oper.semAt_some
def M8(x:AM):Bool:=decide (x.lets.length<=64)&&(decide (x.crops.length<=32)&&(decide (x.reaches.length<=64)&&(decide (x.farms.length<=600)&&(decide (x.rots.length<=64)&&(decide (x.rights.length<=256)&&decide (x.duties.length<=256))))))
def GI(l:List Bq):Bool:=l.all λd=>decide (d.turns.length<=64)
def Fz(x:AM):Bool:=(Ba x).all λe=>decide (BB e.1<=8)
def OS(w:World)(ok:Bool)(e:Ending)(w':World):Prop:=Below w.heap.size w w'/\e=if ok then .returned (.tuple #[]) else .panicked [{v:=.iface 34 (.int .i64 2),recovered:=false}]
def LJ(Bs:Nat)(a:World)(p:NP)(k:Nat)(O:NP)(W:World):Prop:=(∀b,O b->Bs < b)/\Below (Bs+1) a W/\p k
theorem LJ.stays{Bs:Nat}{j:World}{p:NP}(n:j.heap.size=Bs+1):Cv (LJ Bs j p):=by
 intro k O W m W' c f g e d a i
 have hs:=c.2.1.size
 refine ⟨λb hb=>(i b hb).elim (c.1 b) (λh=>by omega),c.2.1.trans ⟨g,e,d,f,λb hb=>a b (λl=>?_) (by omega)⟩,c.2.2⟩
 have:=c.1 b l
 omega
def RU(x:AM)(k:Nat):Prop:=∀j (h:j < (Ba x).length),j < k->BB (Ba x)[j].1<=8
def bH(N:NP)(s:Nat)(w:World)(x:AM)(k b o:Nat):Prop:=∃(h:k < (Ba x).length) (cs:LV),(b=s\/N b)/\w.rangeAt b o cs/\Bm N w (Ba x)[k].1 cs
theorem KE{B:Nat}{a w:World}(h:Below B a w){g:Nat}(hg:B<=g)(o:Obj):Below B a (w.putObj g o):=
 h.trans ⟨rfl,rfl,rfl,by simp,λk b=>World.putObj_heap_other (by omega)⟩
theorem Bz{B:Nat}{a w:World}(h:Below B a w){g:Nat}(hg:B<=g)(row:Array Value):Below B a (w.setRow g row):=
 h.trans ⟨rfl,rfl,rfl,by simp[World.setRow],λk b=>by simp[World.setRow,yH,show g≠k by omega]⟩
section
variable{N:NP}{w:World}
theorem OT{e:Ex}{c:LV}(h:Bm N w e c):∀v∈c,v.oneCell'=true:=by
 obtain ⟨a,cap,rfl,_⟩:=h.cells
 intro v b
 simp at b
 rcases b with rfl|rfl|rfl|rfl|rfl|rfl<;>rfl
theorem M9{t:AA}{cs:LV}{d:Bq}(h:Ip N w t cs d):∀v∈cs,v.oneCell'=true:=by
 obtain ⟨_,_,c0,c1,c2,rfl,g0,g1,b,_⟩:=h
 intro v a
 simp only[B6,yq,yO,yu,yV] at a
 rcases a with rfl|(rfl|rfl)|rfl|h|h|h|rfl
 ·rfl
 ·rfl
 ·rfl
 ·rfl
 ·exact OT g0 v h
 ·exact OT g1 v h
 ·exact OT b v h
 rfl
theorem O5{t:AA}{cs:LV}{d:Bq}(h:Ip N w t cs d)(_:cs.length=23):cs[22]?=some (.slice t.a t.n t.c):=by
 obtain ⟨_,_,c0,c1,c2,rfl,g0,g1,b,_⟩:=h
 obtain ⟨_,_,rfl,_⟩:=g0.cells
 obtain ⟨_,_,rfl,_⟩:=g1.cells
 obtain ⟨_,_,rfl,_⟩:=b.cells
 rfl
theorem RW{t:AA}{cs:LV}{d:Bq}(h:Ip N w t cs d):t.n=d.turns.length:=by
 obtain ⟨_,_,_,_,_,_,_,_,_,h,_⟩:=h
 exact h
end
def YP(s:Nat)(F:Bool)(w:World)(a:Act)(w2:World):Prop:=w2=w/\∃u6 u7 u8 u9 V k Q K o m D a1 I g Z c L R v x H S Y M r O d h p X e i T W j G b B P U A C n y E t l a2 f u N q z J,a={tmps:=#[.pointer (some ⟨s,0,none⟩),undef,.bool F,undef,undef,undef,u6,u7,u8,u9,V,k,Q,K,o,m,D,a1,I,g,Z,c,L,R,v,x,H,S,Y,M,r,O,d,h,p,X,e,i,T,W,j,G,b,B,P,U,A,C,n,y,E,t,l,a2,f,u,N,q,z,J,undef,undef,undef,undef,undef,undef,undef,undef,undef,undef,undef,undef,undef,undef,undef,undef,undef,undef,undef,undef,undef,undef,undef,undef,undef,undef,undef,undef,undef],defers:=[]}
theorem L8{N:NP}{w:World}{L:BQ}{cs:LV}{x:AM}(h:CQ N w L cs x)(hr:w.rangeAt L.s 0 cs)(hN:∀b,N b->b < w.heap.size)(hs:L.s < w.heap.size)(hd:∀e∈Ba x,BB e.1<=1000000):
  Calls prog 73 #[.pointer (some ⟨L.s,0,none⟩)] w (OS w (M8 x&&(GI x.rots&&Fz x))):=by
 have HV:=yb h
 have am:=yb hr
 have HN:=yb hN
 have HD:=yb hd
 have T:=yb (M5 (Bs:=w.heap.size) (h.same (λb h=>h) (FQ hN ((yg _ _).alloc (yi _) (.cells #[pV L.s 0] 0)))) (A8 hr (((yg _ _).alloc (yi _) (.cells #[pV L.s 0] 0)).block _ hs)) (by
  have:(w.alloc (.cells #[pV L.s 0] 0)).heap[w.heap.size]?=some (.cells #[pV L.s 0] 0 (0,0)):=World.alloc_heap_new _ _
  simp only[World.cell?,this];simp))
 have Y:w.cell? (aV L.s 19)=some L.lets.v:=(((yg w.heap.size w).alloc (yi _) (.cells #[pV L.s 0] 0)).cell (p:=(aV L.s 19)) hs).symm.trans T.o.lets
 have S:w.cell? (aV L.s 20)=some L.crops.v:=(((yg w.heap.size w).alloc (yi _) (.cells #[pV L.s 0] 0)).cell (p:=(aV L.s 20)) hs).symm.trans T.o.crops
 have R:w.cell? (aV L.s 21)=some L.reaches.v:=(((yg w.heap.size w).alloc (yi _) (.cells #[pV L.s 0] 0)).cell (p:=(aV L.s 21)) hs).symm.trans T.o.reaches
 have a2:w.cell? (aV L.s 22)=some L.farms.v:=(((yg w.heap.size w).alloc (yi _) (.cells #[pV L.s 0] 0)).cell (p:=(aV L.s 22)) hs).symm.trans T.o.farms
 have an:w.cell? (aV L.s 23)=some L.rots.v:=(((yg w.heap.size w).alloc (yi _) (.cells #[pV L.s 0] 0)).cell (p:=(aV L.s 23)) hs).symm.trans T.o.rots
 have M:w.cell? (aV L.s 24)=some L.rights.v:=(((yg w.heap.size w).alloc (yi _) (.cells #[pV L.s 0] 0)).cell (p:=(aV L.s 24)) hs).symm.trans T.o.rights
 have J:w.cell? (aV L.s 25)=some L.duties.v:=(((yg w.heap.size w).alloc (yi _) (.cells #[pV L.s 0] 0)).cell (p:=(aV L.s 25)) hs).symm.trans T.o.duties
 unfold AA.v at Y S R a2 an M J
 have n1:=h.lets.1;have n2:=h.crops.1;have n3:=h.reaches.1;have n4:=h.farms.1;have n5:=h.rots.1;have n6:=h.rights.1;have n7:=h.duties.1
 have hF:M8 x=(decide (L.lets.n<=64)&&(decide (L.crops.n<=32)&&(decide (L.reaches.n<=64)&&(decide (L.farms.n<=600)&&(decide (L.rots.n<=64)&&(decide (L.rights.n<=256)&&decide (L.duties.n<=256))))))):=by unfold M8;rw[n1,n2,n3,n4,n5,n6,n7]
 have HF:=yb hF
 have N5:=yb n5
 clear h hr hN hd T n1 n2 n3 n4 n5 n6 n7 hF
 refine Bt (n:=10) func73 rfl ?_
 simp only[ntmps73,yA,yr,yK,Nat.reduceAdd,Nat.reduceSub,zw,zx,zG,zD,yS,yQ]
 generalize bm:M8 x=F at HF |-
 clear bm
 refine Aj (Aa (Code.wp_mono (Q:=Exit.then (YP L.s F w) (λ_ _ _=>False)) ?_ ?_))
 rotate_left
 ·go_wp2
  all_goals
   first
   |(obtain rfl:F=false:=by rw[HF.o];simp only[Bool.and_eq_false_iff,xW];omega
     exact ⟨rfl,_,_,_,_,_,_,_,_,_,_,_,_,_,_,_,_,_,_,_,_,_,_,_,_,_,_,_,_,_,_,_,_,_,_,_,_,_,_,_,_,_,_,_,_,_,_,_,_,_,_,_,_,_,_,rfl⟩)
   |(obtain rfl:F=decide ((L.duties.n:Int)<=256):=by rw[HF.o,zo];simp only[yw,yM];omega
     exact ⟨rfl,_,_,_,_,_,_,_,_,_,_,_,_,_,_,_,_,_,_,_,_,_,_,_,_,_,_,_,_,_,_,_,_,_,_,_,_,_,_,_,_,_,_,_,_,_,_,_,_,_,_,_,_,_,_,rfl⟩)
 rintro (_|id|l|_|ch|_) a' w' h
 rotate_left
 ·exact h.elim
 ·exact h.elim
 ·exact h.elim
 ·exact h.elim
 ·exact h.elim
 obtain ⟨rfl,u6,u7,u8,u9,cc,az,c9,bw,cj,bn,bt,cv,cz,ax,bd,bh,b8,d1,ck,cl,b7,cb,d5,cq,b3,ba,bi,cg,bo,cd,bj,ci,cr,bb,ay,co,cw,cn,c8,d2,b4,b5,b0,cm,bu,bq,d6,be,cf,ce,b9,bp,cy,bv,rfl⟩:=h
 clear Y S R a2 M J
 refine Aj (Aa ?_)
 go_wp2
 go_loopw [2,65] (λfv iv wr=>∃i:Nat,i<=L.rots.n/\iv=iV i/\fv=.bool (F&&GI (x.rots.take i))/\Hid (Below w'.heap.size w' wr)) (λ_ iv _=>L.rots.n - (intOf iv).toNat)
 case atStart=>exact ⟨0,yC _,rfl,by simp[GI],yb (yg _ _)⟩
 obtain ⟨i,hi,rfl,rfl,u⟩:=hrel
 by_cases bg:i < L.rots.n
 ·have ab:i < x.rots.length:=by rw[<-N5.o];exact bg
  obtain ⟨b,o,f,he,ca,r,A,B⟩:=HV.o.rots.2.2 i ab
  have A:=A8 A (u.o.block b (HN.o b ca))
  have V:=M9 B
  have a8:=O5 B r
  have Z:=RW B
  have ht:GI (x.rots.take (i+1))=(GI (x.rots.take i)&&decide ((Ac L i).n<=64)):=by
   rw[yP ab]
   unfold GI
   rw[List.all_append,Z]
   simp
  have HT:=yb ht
  have bk:(i:Int) < (L.rots.n:Int):=by omega
  have d7:L.rots.n<=140737488355328:=by have:=HV.o.rots.2.1;have:=N5.o;omega
  have ad:=yb A
  have P:=yb (yL V)
  have a7:Hid ((prog.info? 56).map (·.size)=some f.length):=yb (by rw[r];kernel_rfl)
  have K:Hid ((prog.info? 56).map (·.size)=some f.toArray.size):=yb (by rw[yA];exact a7.o)
  have U:=yb r
  rw[he] at*
  have dc:((wr.alloc (.cells #[.string ⟨#[]⟩,.string ⟨#[]⟩,iV 0,iV 0,iV 0,iV 0,iV 0,.string ⟨#[]⟩,iV 0,.slice none 0 0,iV 0,iV 0,iV 0,.string ⟨#[]⟩,iV 0,.slice none 0 0,iV 0,iV 0,iV 0,.string ⟨#[]⟩,iV 0,.slice none 0 0,.slice none 0 0] 56)).setRow wr.heap.size f.toArray).cell? (aV wr.heap.size 22)=some (.slice (Ac L i).a (Ac L i).n (Ac L i).c):=by
   have cp:(wr.alloc (.cells #[.string ⟨#[]⟩,.string ⟨#[]⟩,iV 0,iV 0,iV 0,iV 0,iV 0,.string ⟨#[]⟩,iV 0,.slice none 0 0,iV 0,iV 0,iV 0,.string ⟨#[]⟩,iV 0,.slice none 0 0,iV 0,iV 0,iV 0,.string ⟨#[]⟩,iV 0,.slice none 0 0,.slice none 0 0] 56)).heap[wr.heap.size]?=some (.cells #[.string ⟨#[]⟩,.string ⟨#[]⟩,iV 0,iV 0,iV 0,iV 0,iV 0,.string ⟨#[]⟩,iV 0,.slice none 0 0,iV 0,iV 0,iV 0,.string ⟨#[]⟩,iV 0,.slice none 0 0,iV 0,iV 0,iV 0,.string ⟨#[]⟩,iV 0,.slice none 0 0,.slice none 0 0] 56 (0,0)):=World.alloc_heap_new _ _
   simp only[World.cell?,World.setRow,yH,cp]
   simp[a8]
  clear A Z ht r he V B
  generalize GI (x.rots.take i)=G at HT |-
  cases aw:(F&&G) with
  |false=>
   go_wp2_with (first|(refine yj rfl 56 _ rfl b (o+i*23) rfl f _ ad.o jt rfl a7.o ?_)|(refine yt rfl 56 _ _ rfl wr.heap.size f.toArray rfl rfl 56 _ (World.alloc_heap_new _ _) K.o (by simp[U.o]) P.o ?_))
   refine ⟨⟨i+1,by omega,by push_cast;rfl,by rw[HT.o];revert aw;cases F<;>cases G<;>simp<;>omega,yb (Bz (u.o.alloc u.o.size _) u.o.size _)⟩,by simp[intOf];omega⟩
  |true=>
   go_wp2_with (first|(refine yj rfl 56 _ rfl b (o+i*23) rfl f _ ad.o jt rfl a7.o ?_)|(refine yt rfl 56 _ _ rfl wr.heap.size f.toArray rfl rfl 56 _ (World.alloc_heap_new _ _) K.o (by simp[U.o]) P.o ?_))
   refine ⟨⟨i+1,by omega,by push_cast;rfl,by rw[HT.o];revert aw;cases F<;>cases G<;>simp<;>omega,yb (Bz (u.o.alloc u.o.size _) u.o.size _)⟩,by simp[intOf];omega⟩
 obtain rfl:i=L.rots.n:=by omega
 have bk:decide ((L.rots.n:Int) < (L.rots.n:Int))=false:=by simp
 have ai:x.rots.take L.rots.n=x.rots:=by rw[N5.o];exact zA
 rw[ai]
 clear ai
 go_wp2
 cases ah:(F&&GI x.rots) with
 |false=>
  have g:(F&&(GI x.rots&&Fz x))=false:=by rw[<-Bool.and_assoc,ah];rfl
  rw[g]
  clear g
  refine Aj (Aa ?_)
  go_wp2_with (first|(go_at_call 98;refine (CM _ _).mono ?_;rintro e w2 ⟨rfl,rfl⟩))
  exact ⟨u.o,rfl⟩
 |true=>
  have g:(F&&(GI x.rots&&Fz x))=Fz x:=by rw[<-Bool.and_assoc,ah];rfl
  rw[g]
  clear g
  refine Aj (Aa ?_)
  go_wp2_with (first|(go_at_call 98;refine (CX _ _).mono ?_;rintro e w2 ⟨rfl,rfl⟩))
  refine Aj (Aa ?_)
  go_wp2_with (first|(go_at_call 101;refine (Fy _ _).mono ?_;rintro e w2 ⟨rfl,rfl⟩))
  refine Dp ?_
  have HE:=yb (JG HV.o am.o)
  have C:Below w'.heap.size w' (w2.alloc (.cells #[pV L.s 0] 154)):=u.o.alloc u.o.size _
  have cx:=yb C
  have X:(w2.alloc (.cells #[pV L.s 0] 154)).cell? (aV w2.heap.size 0)=some (pV L.s 0):=by
   have:(w2.alloc (.cells #[pV L.s 0] 154)).heap[w2.heap.size]?=some (.cells #[pV L.s 0] 154 (0,0)):=World.alloc_heap_new _ _
   simp only[World.cell?,this];simp
  have ac:(w2.alloc (.cells #[pV L.s 0] 154)).heap.size=w2.heap.size+1:=by simp
  have af:=yb X
  have y:=yb ac
  clear X ac C
  have ap:∀W,Below (w2.heap.size+1) (w2.alloc (.cells #[pV L.s 0] 154)) W->Below w'.heap.size w' W:=λW hW=>cx.o.trans (hW.mono (Nat.le_succ_of_le u.o.size))
  have m:=yb ap
  clear ap
  have ak:Hid (w'.heap.size<=w2.heap.size):=yb u.o.size
  clear u
  generalize da:w2.alloc (.cells #[pV L.s 0] 154)=W1 at*
  refine CW (n:=10) func73 rfl (λ_ _=>rfl) (M7 9 (by omega) w2.heap.size L HV.o.ok) (λa ha=>by
    obtain ⟨i,hi,rfl⟩:=zq.1 ha
    obtain ⟨b,o,c,h1,_⟩:=HE.o.get i hi (by rw[<-HE.o.length];exact hi)
    rw[h1];rfl)
   (LJ w2.heap.size W1 (RU x)) (λ_ _ _=>False) (λch=>LJ w2.heap.size W1 (λ_=>ch=[{v:=.iface 34 (iV 2),recovered:=false}]/\Fz x=false) 0)
   (λk a=>(LJ w2.heap.size W1 λk=>RU x k/\∃b o lt,bH N L.s w' x k b o/\a={tmps:=#[pV L.s 0,undef,.bool true,undef,u4,pV b o,u6,u7,u8,u9,cc,az,c9,bw,cj,bn,bt,cv,cz,ax,bd,bh,b8,d1,ck,cl,b7,cb,d5,cq,b3,ba,bi,cg,bo,cd,bj,ci,cr,bb,ay,co,cw,cn,c8,d2,b4,b5,b0,cm,bu,bq,d6,be,cf,ce,b9,bp,cy,bv,pV L.s 0,pV L.s 0,pV L.s 23,.slice L.rots.a L.rots.n L.rots.c,iV L.rots.n,iV L.rots.n,.bool false,u67,u68,u69,u70,u71,u72,u73,u74,u75,u76,.bool true,.tuple #[],pV L.s 0,.func (.func 124) #[] #[pV w2.heap.size 0],pV b o,iV lt,undef,undef,undef,undef,undef,undef],defers:=[]}) k) ?_ (λ_ _ _ _ _ _ h=>h.elim) (λ_ _ O W O' W' h=>LJ.stays y.o 0 O W O' W' h) ?_ ?_ (λ_ _ _ h=>h.elim) (λ_ h=>by cases h) ?_ ?_ ?_ ?_ (λ_ _ _ _ _ _ h=>h.elim) ?_
  ·exact LJ.stays y.o
  ·exact λa=>LJ.stays y.o
  ·rintro k O W ⟨hO,hb,hp⟩
   exact M5 (HV.o.same (λb h=>h) (FQ HN.o (m.o W hb))) (A8 am.o ((m.o W hb).block _ hs)) ((hb.cell (p:=(aV w2.heap.size 0)) (Nat.lt_succ_self _)).trans af.o)
  ·exact ⟨λ_ h=>h.elim,yg _ _,λj _ I=>absurd I (by omega)⟩
  ·intro k hk O W l I hO hl _
   obtain ⟨b,o,f,h1,h2,h3,h4⟩:=HE.o.get k hk (by rw[<-HE.o.length];exact hk)
   have H:k < (Ba x).length:=by rw[<-HE.o.length];exact hk
   rw[h1]
   generalize (Ba x)[k].2=lt
   have E:=yb I
   have HP:Hid (bH N L.s w' x k b o):=yb ⟨H,f,h2,h3,h4⟩
   clear I hO hl h1 h2 h3 h4
   gi_wp2
   first
   |exact ⟨B7.refl _ _,E.o.1,E.o.2.1,E.o.2.2,b,o,lt,HP.o,rfl⟩
   |(rename_i hK;exact hK _ _ ⟨B7.refl _ _,E.o.1,E.o.2.1,E.o.2.2,b,o,lt,HP.o,rfl⟩)
   |(rename_i hK _;exact hK _ _ ⟨B7.refl _ _,E.o.1,E.o.2.1,E.o.2.2,b,o,lt,HP.o,rfl⟩)
   |fail
  ·rintro k hk O W l a1 hl ae av ⟨hO,hb,hd,b,o,lt,⟨H,f,h1,h2,h3⟩,rfl⟩
   obtain ⟨ea,d8,rfl,e1,e2,e3⟩:=h3.cells
   have ag:b < w'.heap.size:=by
    rcases h1 with rfl|h1
    ·exact hs
    exact HN.o b h1
   obtain ⟨c0,c1,c2,c3,c4,c5⟩:=BP (A8 h2 ((m.o W hb).block b ag))
   have hw:Bm N W (Ba x)[k].1 _:=h3.same (λb h=>h) (FQ HN.o (m.o W hb))
   have t:=yb (TR (Ba x)[k].1 hw (λb C=>yx (HN.o b C) (m.o W hb).size) (HD.o _ (yR H)))
   have HO:=yb hO
   have au:=yb av
   have aq:=y.o
   have al:Hid (w2.heap.size+1<=W.heap.size):=yb (by rw[<-aq];exact hb.size)
   clear aq
   have ao:=yb hb
   have d0:=yb hd
   have HK:=yb H
   have hX:Hid (∀d,d=BB (Ba x)[k].1->(d<=8->RU x (k+1))/\(8 < d->Fz x=false)):=yb λd db=>by
    refine ⟨λh j I d9=>?_,λh=>?_⟩
    ·rcases xp j k with h9|h9
     ·exact d0.o j I h9
     obtain rfl:j=k:=by omega
     omega
    unfold Fz
    rw[xH]
    exact ⟨_,yR HK.o,by simp;omega⟩
   clear av hw hO hb hd hl ae h2 h3 e1 e2 e3 h1 ag
   by_cases h8:BB (Ba x)[k].1<=8
   ·have HT:=yb ((hX.o _ rfl).1 h8)
    have z:decide ((BB (Ba x)[k].1:Int)<=8)=true:=by simp;omega
    clear h8 hX
    generalize BB (Ba x)[k].1=dd at t z
    gi_wp2_with fail
    refine ⟨trivial,zB (CallsIn.inRound l (zi.2 t.o)) ?_⟩
    rintro e w3 ⟨rfl,q⟩
    gi_wp2_with fail
    refine ⟨trivial,zB (CallsIn.inRound l (zi.2 (CX _ _))) ?_⟩
    rintro e w4 ⟨rfl,rfl⟩
    try gi_wp2_with fail
    exact ⟨⟨q.size,λb hb=>q.block b (au.o b hb)⟩,HO.o,ao.o.trans (q.mono al.o),HT.o⟩
   have HT:=yb ((hX.o _ rfl).2 (by omega))
   have z:decide ((BB (Ba x)[k].1:Int)<=8)=false:=by simp;omega
   clear h8 hX
   generalize BB (Ba x)[k].1=dd at t z
   gi_wp2_with fail
   refine ⟨trivial,zB (CallsIn.inRound l (zi.2 t.o)) ?_⟩
   rintro e w3 ⟨rfl,q⟩
   gi_wp2_with fail
   refine ⟨trivial,zB (CallsIn.inRound l (zi.2 (CM _ _))) ?_⟩
   rintro e w4 ⟨rfl,rfl⟩
   try gi_wp2_with fail
   exact ⟨rfl,⟨q.size,λb hb=>q.block b (au.o b hb)⟩,HO.o,ao.o.trans (q.mono al.o),rfl,HT.o⟩
  ·rintro - D O W hD - I aa
   have a6:Fz x=true:=by
    unfold Fz
    rw[zj]
    intro e he
    obtain ⟨j,aj,rfl⟩:=zq.1 he
    simp only[yM]
    exact I.2.2 j aj (by rw[HE.o.length];exact aj)
   rw[a6]
   exact ⟨by simp,.inl ⟨_,_,rfl,run_takeDeferred aa,⟨_,zr rfl _ _ _,KE (m.o W I.2.1) (by have:=y.o;have:=ak.o;omega) _,rfl⟩⟩⟩
  rintro D ch O W hD - ⟨-,hb,rfl,hd⟩ aa
  rw[hd]
  exact ⟨by simp,.inl ⟨_,_,rfl,run_takeDeferred aa,⟨KE (m.o W hb) (by have:=y.o;have:=ak.o;omega) _,rfl⟩⟩⟩
end Go.Proofs.YtbdfinegbjdblaaGreatDoor
namespace Go.Proofs.YtbdfinegbjdblaaGreatDoor
open Go.RowKit Tryz
theorem GM{W:World}{b o m i:Nat}{s:ByteArray}{z most:Int}{a:LB}(h0:W.cell? ⟨b,o,none⟩=some (.string s))(h1:W.cell? ⟨b,o+1,none⟩=some (.int .i64 z))(hf:W.frozen? ⟨b,o+1,none⟩=false)(f:Cl W m a)(hs:s.size<=maxLen)(d:Dj a s=some i)(hi:(i:Int) < most):
  Calls prog 97 #[.pointer (some ⟨b,o,none⟩),.map (some m),.int .i64 most] W λe w'=>e=.returned (.tuple #[])/\w'=W.setCell ⟨b,o+1,none⟩ (.int .i64 (i:Int)):=by
 have c:=f.look s hs
 simp only[Ju,d] at c
 have g:=yb d
 clear d f
 go_enter func97,ntmps97
 go_wp2_with (first|(go_at_call 98;refine (CX _ _).mono ?_;rintro e h ⟨rfl,rfl⟩))
 go_end0
 exact ⟨rfl,rfl⟩
theorem J6{W:World}{b o m:Nat}{s:ByteArray}{most:Int}{a:LB}(h0:W.cell? ⟨b,o,none⟩=some (.string s))(g:Cl W m a)(hs:s.size<=maxLen)(f:∀i,Dj a s=some i->¬ (i:Int) < most):
  Calls prog 97 #[.pointer (some ⟨b,o,none⟩),.map (some m),.int .i64 most] W λe w'=>e=.panicked (Fg 170)/\w'=W:=by
 have d:=g.look s hs
 cases c:Dj a s with
 |none=>
  simp only[Ju,c] at d
  have k:=yb f;have h:=yb c
  clear f g c
  go_enter func97,ntmps97
  go_wp2_with (first|(go_at_call 98;refine (CM _ _).mono ?_;rintro e j ⟨rfl,rfl⟩))
  exact ⟨rfl,rfl,rfl⟩
 |some i=>
  have hi:=f i c
  simp only[Ju,c] at d
  have h:=yb c
  clear f g c
  go_enter func97,ntmps97
  go_wp2_with (first|(go_at_call 98;refine (CM _ _).mono ?_;rintro e j ⟨rfl,rfl⟩))
  exact ⟨rfl,rfl,rfl⟩
def Ty(w:World)(b t:Nat):Prop:=∃c,w.heap[b]?=some (.cells c t (0,0))
theorem Ty.inj{w:World}{b t a:Nat}(h:Ty w b t)(f:Ty w b a):t=a:=by
 obtain ⟨c,e⟩:=h
 obtain ⟨c',d⟩:=f
 rw[e] at d
 cases d;rfl
theorem Ty.lt{w:World}{b t:Nat}(h:Ty w b t):b < w.heap.size:=by
 obtain ⟨c,e⟩:=h
 exact (yd.1 e).1
def Gg(t o:Nat):Nat:=
 if t=49 then (if o=0 then 0 else if o < 19 then 1 else 0)
 else if t=118 then (if o % 7=0 then 0 else 1)
 else if t=120 then (if o % 7=0 then 0 else 1)
 else if t=123 then (if o % 51 < 2 then 0 else if o % 51=2 then 2 else 1)
 else if t=125 then (if o % 12=2 then 2 else if o % 12=11 then 2 else if o % 12 < 4 then 0 else if o % 12=10 then 0 else 1)
 else if t=56 then (if o % 23=2 then 2 else if o % 23 < 4 then 0 else if o % 23=22 then 0 else 1)
 else if t=65 then (if o % 8=0 then 0 else if o % 8=1 then 2 else 1)
 else if t=127 then (if o % 37=3 then 2 else if o % 37=5 then 2 else if o % 37 < 7 then 0 else 1)
 else if t=129 then (if o % 11=2 then 2 else if o % 11=4 then 2 else if o % 11 < 5 then 0 else 1)
 else 1
def GN(t o:Nat):Nat:=
 if t=49 then (o+5) % 6
 else if t=118 then (o % 7+5) % 6
 else if t=120 then (o % 7+5) % 6
 else if t=123 then (o % 51+3) % 6
 else if t=125 then (o % 12+2) % 6
 else if t=56 then (o % 23+2) % 6
 else if t=65 then (o % 8+4) % 6
 else if t=127 then (o % 37+5) % 6
 else if t=129 then (o % 11+1) % 6
 else o % 6
def Hr(w:World)(b o:Nat):Prop:=∃t,Ty w b t/\∀j,j < 6->Gg t (o+j)=1/\GN t (o+j)=j
theorem Hr.uniq{w:World}{b o a j j':Nat}(h:Hr w b o)(l:Hr w b a)(k:j < 6)(e:j' < 6)(f:o+j=a+j'):j=j'/\o=a:=by
 obtain ⟨t,h1,h2⟩:=h
 obtain ⟨m,c,d⟩:=l
 obtain rfl:=h1.inj c
 have g:=(h2 j k).2
 have i:=(d j' e).2
 rw[f,i] at g
 omega
def S0(w:World)(b o:Nat):Prop:=∃t,Ty w b t/\Gg t o=0/\Gg t (o+1)=2
def PZ(w:World)(b o:Nat):Prop:=∃t,Ty w b t/\Gg t o=0
def EX{α:Type}(N:NP)(w:World)(t sz:Nat)(P:Nat->Nat->Nat->α->Prop)(h:AA)(l:List α):Prop:=
 h.n=l.length/\l.length<=140737488355328/\∀i (hi:i < l.length),∃g,h.a=some ⟨g,0,none⟩/\N g/\Ty w g t/\P i g (i*sz) l[i]
theorem EX.ok{α:Type}{N:NP}{w:World}{t sz:Nat}{P:Nat->Nat->Nat->α->Prop}{h:AA}{l:List α}(hr:EX N w t sz P h l):h.ok:=by
 obtain ⟨h1,h2,h3⟩:=hr
 refine ⟨by omega,λa=>?_⟩
 obtain ⟨g,g1,_⟩:=h3 0 (by omega)
 exact ⟨g,0,g1⟩
theorem EX.map{α:Type}{N:NP}{w w':World}{t sz:Nat}{P a:Nat->Nat->Nat->α->Prop}{h:AA}{l:List α}{f:Nat->α->α}(hr:EX N w t sz P h l)(j:∀b,N b->Ty w b t->Ty w' b t)(k:∀i g d,N g->Ty w g t->P i g (i*sz) d->a i g (i*sz) (f i d)):EX N w' t sz a h (l.mapIdx f):=by
 obtain ⟨h1,h2,h3⟩:=hr
 refine ⟨by rw[List.length_mapIdx];exact h1,by rw[List.length_mapIdx];exact h2,λi hi=>?_⟩
 rw[List.length_mapIdx] at hi
 obtain ⟨g,g1,g0,c,e⟩:=h3 i hi
 refine ⟨g,g1,g0,j g g0 c,?_⟩
 rw[List.getElem_mapIdx]
 exact k i g _ g0 c e
section
variable(N:NP)(E:Int->Ex->Nat->Nat->Prop)(R:Int->Rf->Nat->Nat->Prop)(w:World)
def Mh(s:ByteArray)(g o:Nat):Prop:=s.size<=maxLen/\w.cell? ⟨g,o,none⟩=some (.string s)
def Zq(i g o:Nat)(d:FR):Prop:=Mh w d.name g o/\E (1+(i:Int)) d.value g (o+1)
def Ys(_ g o:Nat)(d:DH):Prop:=Mh w d.name g o/\E 0 d.need g (o+1)
def VB(i g o:Nat)(d:AS):Prop:=Mh w d.name g o/\R (if i=0 then 0 else 6) d.frm g (o+1)/\E 0 d.delay g (o+3)/\E 0 d.cap g (o+9)/\E 0 d.bank g (o+15)/\E 0 d.siphon g (o+21)/\E 0 d.evap0 g (o+27)/\E 0 d.evap1 g (o+33)/\E 0 d.seep0 g (o+39)/\E 0 d.seep1 g (o+45)
def Yt(_ g o:Nat)(d:BG):Prop:=Mh w d.name g o/\R 4 d.on g (o+1)/\w.cell? ⟨g,o+3,none⟩=some (.bool d.river)/\E 0 d.area g (o+4)/\R (if d.river then 0 else 3) d.crop g (o+10)
def Yu(_ g o:Nat)(d:C6):Prop:=R 5 d.farm g o/\E 0 d.len g (o+2)
def YQ(h:Nat->AA)(i g o:Nat)(d:Bq):Prop:=Mh w d.name g o/\R 4 d.on g (o+1)/\w.cell? ⟨g,o+3,none⟩=some (.int .i64 d.rank)/\E 0 d.flow g (o+4)/\E 0 d.frm g (o+10)/\E 0 d.to g (o+16)/\w.cell? ⟨g,o+22,none⟩=some (h i).v/\EX N w 65 8 (Yu E R) (h i) d.turns
def VC(_ g o:Nat)(d:Bj):Prop:=w.cell? ⟨g,o,none⟩=some (.int .i64 d.kind)/\Mh w d.name g (o+1)/\R 5 d.farm g (o+2)/\R (if d.kind=1 then 0 else 4) d.reach g (o+4)/\w.cell? ⟨g,o+6,none⟩=some (.int .i64 d.rank)/\E 0 d.flow g (o+7)/\E 0 d.frm g (o+13)/\E 0 d.to g (o+19)/\E 0 d.every g (o+25)/\E 0 d.len g (o+31)
def Yv(_ g o:Nat)(d:CZ):Prop:=Mh w d.name g o/\R 5 d.farm g (o+1)/\R 4 d.reach g (o+3)/\E 0 d.due g (o+5)
structure Cz (L:BQ) (x:AM):Prop where
 ty:Ty w L.s 49
 name:Mh w x.name L.s 0
 season:E 0 x.season L.s 1
 cap:E 0 x.cap L.s 7
 start:E 0 x.start L.s 13
 hlets:w.cell? ⟨L.s,19,none⟩=some L.lets.v
 hcrops:w.cell? ⟨L.s,20,none⟩=some L.crops.v
 hreaches:w.cell? ⟨L.s,21,none⟩=some L.reaches.v
 hfarms:w.cell? ⟨L.s,22,none⟩=some L.farms.v
 hrots:w.cell? ⟨L.s,23,none⟩=some L.rots.v
 hrights:w.cell? ⟨L.s,24,none⟩=some L.rights.v
 hduties:w.cell? ⟨L.s,25,none⟩=some L.duties.v
 lets:EX N w 118 7 (Zq E w) L.lets x.lets
 crops:EX N w 120 7 (Ys E w) L.crops x.crops
 reaches:EX N w 123 51 (VB E R w) L.reaches x.reaches
 farms:EX N w 125 12 (Yt E R w) L.farms x.farms
 rots:EX N w 56 23 (YQ N E R w (Ac L)) L.rots x.rots
 rights:EX N w 127 37 (VC E R w) L.rights x.rights
 duties:EX N w 129 11 (Yv E R w) L.duties x.duties
end
section
variable(f:Int->Ex->Ex)(g:Int->Rf->Rf)
def FR.mp(i:Nat)(d:FR):FR:={d with value:=f (1+(i:Int)) d.value}
def DH.mp(_:Nat)(d:DH):DH:={d with need:=f 0 d.need}
def AS.mp(i:Nat)(d:AS):AS:={d with frm:=g (if i=0 then 0 else 6) d.frm,delay:=f 0 d.delay,cap:=f 0 d.cap,bank:=f 0 d.bank,siphon:=f 0 d.siphon,evap0:=f 0 d.evap0,evap1:=f 0 d.evap1,seep0:=f 0 d.seep0,seep1:=f 0 d.seep1}
def BG.mp(_:Nat)(d:BG):BG:={d with on:=g 4 d.on,area:=f 0 d.area,crop:=g (if d.river then 0 else 3) d.crop}
def C6.mp(_:Nat)(d:C6):C6:={farm:=g 5 d.farm,len:=f 0 d.len}
def Bq.mp(_:Nat)(d:Bq):Bq:={d with on:=g 4 d.on,flow:=f 0 d.flow,frm:=f 0 d.frm,to:=f 0 d.to,turns:=d.turns.mapIdx (C6.mp f g)}
def Bj.mp(_:Nat)(d:Bj):Bj:={d with farm:=g 5 d.farm,reach:=g (if d.kind=1 then 0 else 4) d.reach,flow:=f 0 d.flow,frm:=f 0 d.frm,to:=f 0 d.to,every:=f 0 d.every,len:=f 0 d.len}
def CZ.mp(_:Nat)(d:CZ):CZ:={d with farm:=g 5 d.farm,reach:=g 4 d.reach,due:=f 0 d.due}
def AM.mp(x:AM):AM:=
 {x with season:=f 0 x.season,cap:=f 0 x.cap,start:=f 0 x.start,lets:=x.lets.mapIdx (FR.mp f),crops:=x.crops.mapIdx (DH.mp f),reaches:=x.reaches.mapIdx (AS.mp f g),farms:=x.farms.mapIdx (BG.mp f g),rots:=x.rots.mapIdx (Bq.mp f g),rights:=x.rights.mapIdx (Bj.mp f g),duties:=x.duties.mapIdx (CZ.mp f g)}
end
def S1(t sz:Nat):Prop:=(t=118/\sz=7)\/(t=120/\sz=7)\/(t=123/\sz=51)\/(t=125/\sz=12)\/(t=56/\sz=23)\/(t=65/\sz=8)\/(t=127/\sz=37)\/(t=129/\sz=11)
theorem DI{t sz:Nat}(h:S1 t sz)(i c:Nat):Gg t (i*sz+c)=Gg t c/\GN t (i*sz+c)=GN t c:=by
 rcases h with ⟨rfl,rfl⟩|⟨rfl,rfl⟩|⟨rfl,rfl⟩|⟨rfl,rfl⟩|⟨rfl,rfl⟩|⟨rfl,rfl⟩|⟨rfl,rfl⟩|⟨rfl,rfl⟩
 ·have e:(i*7+c) % 7=c % 7:=by omega
  simp[Gg,GN,e]
 ·have e:(i*7+c) % 7=c % 7:=by omega
  simp[Gg,GN,e]
 ·have e:(i*51+c) % 51=c % 51:=by omega
  simp[Gg,GN,e]
 ·have e:(i*12+c) % 12=c % 12:=by omega
  simp[Gg,GN,e]
 ·have e:(i*23+c) % 23=c % 23:=by omega
  simp[Gg,GN,e]
 ·have e:(i*8+c) % 8=c % 8:=by omega
  simp[Gg,GN,e]
 ·have e:(i*37+c) % 37=c % 37:=by omega
  simp[Gg,GN,e]
 have e:(i*11+c) % 11=c % 11:=by omega
 simp[Gg,GN,e]
theorem BI{w:World}{g t sz:Nat}(h:Ty w g t)(hr:S1 t sz)(i c:Nat)(h1:∀j,j < 6->Gg t (c+j)=1/\GN t (c+j)=j):Hr w g (i*sz+c):=
 ⟨t,h,λj a=>by rw[xw,(DI hr i (c+j)).1,(DI hr i (c+j)).2];exact h1 j a⟩
theorem Ec{w:World}{g t sz:Nat}(h:Ty w g t)(hr:S1 t sz)(i c:Nat)(h1:Gg t c=0):PZ w g (i*sz+c):=⟨t,h,by rw[(DI hr i c).1];exact h1⟩
theorem F4{w:World}{g t sz:Nat}(h:Ty w g t)(hr:S1 t sz)(i:Nat)(h1:Gg t 0=0):PZ w g (i*sz):=Ec h hr i 0 h1
theorem Cf{w:World}{g t sz:Nat}(h:Ty w g t)(hr:S1 t sz)(i c:Nat)(h1:Gg t c=0)(h2:Gg t (c+1)=2):S0 w g (i*sz+c):=
 ⟨t,h,by rw[(DI hr i c).1];exact h1,by rw[xw,(DI hr i (c+1)).1];exact h2⟩
theorem Oa{w:World}{g t sz:Nat}(h:Ty w g t)(hr:S1 t sz)(i:Nat)(h1:Gg t 0=0)(h2:Gg t 1=2):S0 w g (i*sz):=Cf h hr i 0 h1 h2
theorem VD:S1 118 7:=.inl ⟨rfl,rfl⟩
theorem S2:S1 120 7:=.inr (.inl ⟨rfl,rfl⟩)
theorem Cm:S1 123 51:=.inr (.inr (.inl ⟨rfl,rfl⟩))
theorem FV:S1 125 12:=.inr (.inr (.inr (.inl ⟨rfl,rfl⟩)))
theorem Gh:S1 56 23:=.inr (.inr (.inr (.inr (.inl ⟨rfl,rfl⟩))))
theorem Mi:S1 65 8:=.inr (.inr (.inr (.inr (.inr (.inl ⟨rfl,rfl⟩)))))
theorem Cn:S1 127 37:=.inr (.inr (.inr (.inr (.inr (.inr (.inl ⟨rfl,rfl⟩))))))
theorem Hs:S1 129 11:=.inr (.inr (.inr (.inr (.inr (.inr (.inr ⟨rfl,rfl⟩))))))
section
variable{N:NP}{E E':Int->Ex->Nat->Nat->Prop}{R R':Int->Rf->Nat->Nat->Prop}{w w':World}{f:Int->Ex->Ex}{g:Int->Rf->Rf}
theorem Mh.same{s:ByteArray}{b o:Nat}(h:Mh w s b o)(a:w'.cell? ⟨b,o,none⟩=w.cell? ⟨b,o,none⟩):Mh w' s b o:=⟨h.1,a.trans h.2⟩
theorem Cz.map{L:BQ}{x:AM}(h:Cz N E R w L x)(k:∀b t,(N b\/b=L.s)->Ty w b t->Ty w' b t)(c:∀b o,(N b\/b=L.s)->PZ w b o->w'.cell? ⟨b,o,none⟩=w.cell? ⟨b,o,none⟩)
 (a:∀lt e b o,(N b\/b=L.s)->Hr w b o->E lt e b o->E' lt (f lt e) b o)(hr:∀to r b o,(N b\/b=L.s)->S0 w b o->R to r b o->R' to (g to r) b o):Cz N E' R' w' L (x.mp f g):=by
 have l:∀o,Gg 49 o=0->w'.cell? (aV L.s o)=w.cell? (aV L.s o):=λo A=>c _ _ (.inr rfl) ⟨_,h.ty,A⟩
 have v:∀lt e o,(∀j,j < 6->Gg 49 (o+j)=1/\GN 49 (o+j)=j)->E lt e L.s o->E' lt (f lt e) L.s o:=λlt e o A=>a lt e _ _ (.inr rfl) ⟨_,h.ty,A⟩
 refine ⟨k _ _ (.inr rfl) h.ty,h.name.same (l 0 rfl),v _ _ _ (by decide) h.season,v _ _ _ (by decide) h.cap,v _ _ _ (by decide) h.start,(l _ rfl).trans h.hlets,(l _ rfl).trans h.hcrops,(l _ rfl).trans h.hreaches,(l _ rfl).trans h.hfarms,(l _ rfl).trans h.hrots,(l _ rfl).trans h.hrights,(l _ rfl).trans h.hduties,?_,?_,?_,?_,?_,?_,?_⟩
 ·refine h.lets.map (λb hb=>k b _ (.inl hb)) λi b d hb ty ⟨h1,h2⟩=>?_
  exact ⟨h1.same (c _ _ (.inl hb) (F4 ty VD i rfl)),a _ _ _ _ (.inl hb) (BI ty VD i 1 (by decide)) h2⟩
 ·refine h.crops.map (λb hb=>k b _ (.inl hb)) λi b d hb ty ⟨h1,h2⟩=>?_
  exact ⟨h1.same (c _ _ (.inl hb) (F4 ty S2 i rfl)),a _ _ _ _ (.inl hb) (BI ty S2 i 1 (by decide)) h2⟩
 ·refine h.reaches.map (λb hb=>k b _ (.inl hb)) λi b d hb ty ⟨h1,h2,n,q,p,z,u,D,C,B⟩=>?_
  exact ⟨h1.same (c _ _ (.inl hb) (F4 ty Cm i rfl)),hr _ _ _ _ (.inl hb) (Cf ty Cm i 1 rfl rfl) h2,
   a _ _ _ _ (.inl hb) (BI ty Cm i 3 (by decide)) n,a _ _ _ _ (.inl hb) (BI ty Cm i 9 (by decide)) q,a _ _ _ _ (.inl hb) (BI ty Cm i 15 (by decide)) p,a _ _ _ _ (.inl hb) (BI ty Cm i 21 (by decide)) z,
   a _ _ _ _ (.inl hb) (BI ty Cm i 27 (by decide)) u,a _ _ _ _ (.inl hb) (BI ty Cm i 33 (by decide)) D,a _ _ _ _ (.inl hb) (BI ty Cm i 39 (by decide)) C,a _ _ _ _ (.inl hb) (BI ty Cm i 45 (by decide)) B⟩
 ·refine h.farms.map (λb hb=>k b _ (.inl hb)) λi b d hb ty ⟨h1,h2,h3,m,y⟩=>?_
  exact ⟨h1.same (c _ _ (.inl hb) (F4 ty FV i rfl)),hr _ _ _ _ (.inl hb) (Cf ty FV i 1 rfl rfl) h2,(c _ _ (.inl hb) (Ec ty FV i 3 rfl)).trans h3,
   a _ _ _ _ (.inl hb) (BI ty FV i 4 (by decide)) m,hr _ _ _ _ (.inl hb) (Cf ty FV i 10 rfl rfl) y⟩
 ·refine h.rots.map (λb hb=>k b _ (.inl hb)) λi b d hb ty ⟨h1,h2,h3,n,q,p,m,y⟩=>?_
  refine ⟨h1.same (c _ _ (.inl hb) (F4 ty Gh i rfl)),hr _ _ _ _ (.inl hb) (Cf ty Gh i 1 rfl rfl) h2,(c _ _ (.inl hb) (Ec ty Gh i 3 rfl)).trans h3,
   a _ _ _ _ (.inl hb) (BI ty Gh i 4 (by decide)) n,a _ _ _ _ (.inl hb) (BI ty Gh i 10 (by decide)) q,a _ _ _ _ (.inl hb) (BI ty Gh i 16 (by decide)) p,(c _ _ (.inl hb) (Ec ty Gh i 22 rfl)).trans m,?_⟩
  refine y.map (λb hb=>k b _ (.inl hb)) λi b d hb ty ⟨h1,h2⟩=>?_
  exact ⟨hr _ _ _ _ (.inl hb) (Oa ty Mi i rfl rfl) h1,a _ _ _ _ (.inl hb) (BI ty Mi i 2 (by decide)) h2⟩
 ·refine h.rights.map (λb hb=>k b _ (.inl hb)) λi b d hb ty ⟨h0,h1,h2,h3,m,n,q,p,z,u⟩=>?_
  exact ⟨(c _ _ (.inl hb) (F4 ty Cn i rfl)).trans h0,h1.same (c _ _ (.inl hb) (Ec ty Cn i 1 rfl)),hr _ _ _ _ (.inl hb) (Cf ty Cn i 2 rfl rfl) h2,hr _ _ _ _ (.inl hb) (Cf ty Cn i 4 rfl rfl) h3,
   (c _ _ (.inl hb) (Ec ty Cn i 6 rfl)).trans m,a _ _ _ _ (.inl hb) (BI ty Cn i 7 (by decide)) n,a _ _ _ _ (.inl hb) (BI ty Cn i 13 (by decide)) q,a _ _ _ _ (.inl hb) (BI ty Cn i 19 (by decide)) p,a _ _ _ _ (.inl hb) (BI ty Cn i 25 (by decide)) z,a _ _ _ _ (.inl hb) (BI ty Cn i 31 (by decide)) u⟩
 refine h.duties.map (λb hb=>k b _ (.inl hb)) λi b d hb ty ⟨h1,h2,h3,m⟩=>?_
 exact ⟨h1.same (c _ _ (.inl hb) (F4 ty Hs i rfl)),hr _ _ _ _ (.inl hb) (Cf ty Hs i 1 rfl rfl) h2,hr _ _ _ _ (.inl hb) (Cf ty Hs i 3 rfl rfl) h3,a _ _ _ _ (.inl hb) (BI ty Hs i 5 (by decide)) m⟩
end
def Zj(N:NP)(E:Int->Ex->Nat->Nat->Prop)(w:World)(a:Array Value)(e:M3):Prop:=∃b o,a=#[.pointer (some ⟨b,o,none⟩),.int .i64 e.2]/\N b/\Hr w b o/\E e.2 e.1 b o
section
variable{N:NP}{E:Int->Ex->Nat->Nat->Prop}{R:Int->Rf->Nat->Nat->Prop}{w:World}
theorem D5{h:AA}{g sz i b t:Nat}{e:Ex}{lt:Int}(hg:h.a=some ⟨g,0,none⟩)(hN:N g)(ty:Ty w g t)(hr:S1 t sz)(h1:∀j,j < 6->Gg t (b+j)=1/\GN t (b+j)=j)(c:E lt e g (i*sz+b)):Zj N E w #[h.ptr sz i b,.int .i64 lt] (e,lt):=
 ⟨g,i*sz+b,by unfold AA.ptr;rw[Bo hg,yy],hN,BI ty hr i b h1,c⟩
theorem Cz.all2{L:BQ}{x:AM}(h:Cz N E R w L x)(hs:N L.s):B9 (Zj N E w) (Cd L) (Ba x):=by
 refine B9.append ?_ (B9.append ?_ (B9.append ?_ (B9.append ?_ (B9.append ?_ (B9.append ?_ (B9.append ?_ ?_))))))
 ·exact ⟨⟨L.s,1,rfl,hs,⟨_,h.ty,by decide⟩,h.season⟩,⟨L.s,7,rfl,hs,⟨_,h.ty,by decide⟩,h.cap⟩,⟨L.s,13,rfl,hs,⟨_,h.ty,by decide⟩,h.start⟩,trivial⟩
 ·obtain ⟨h1,h2,h3⟩:=h.lets
  refine BD _ (λi (d:FR)=> [(d.value,1+(i:Int))]) x.lets _ h1 λi hi=>?_
  obtain ⟨g,g1,g0,ty,l,e⟩:=h3 i hi
  exact ⟨D5 g1 g0 ty VD (by decide) e,trivial⟩
 ·obtain ⟨h1,h2,h3⟩:=h.crops
  refine BD _ (λi (d:DH)=> [(d.need,0)]) x.crops _ h1 λi hi=>?_
  obtain ⟨g,g1,g0,ty,l,e⟩:=h3 i hi
  exact ⟨D5 g1 g0 ty S2 (by decide) e,trivial⟩
 ·obtain ⟨h1,h2,h3⟩:=h.reaches
  refine BD _ (λi (d:AS)=> [(d.delay,0),(d.cap,0),(d.bank,0),(d.siphon,0),(d.evap0,0),(d.evap1,0),(d.seep0,0),(d.seep1,0)]) x.reaches _ h1 λi hi=>?_
  obtain ⟨g,g1,g0,ty,l,e,a,c,b,j,f,r,p,m⟩:=h3 i hi
  exact ⟨D5 g1 g0 ty Cm (by decide) a,D5 g1 g0 ty Cm (by decide) c,D5 g1 g0 ty Cm (by decide) b,D5 g1 g0 ty Cm (by decide) j,D5 g1 g0 ty Cm (by decide) f,D5 g1 g0 ty Cm (by decide) r,D5 g1 g0 ty Cm (by decide) p,D5 g1 g0 ty Cm (by decide) m,trivial⟩
 ·obtain ⟨h1,h2,h3⟩:=h.farms
  refine BD _ (λi (d:BG)=> [(d.area,0)]) x.farms _ h1 λi hi=>?_
  obtain ⟨g,g1,g0,ty,_,_,_,a,_⟩:=h3 i hi
  exact ⟨D5 g1 g0 ty FV (by decide) a,trivial⟩
 ·obtain ⟨h1,h2,h3⟩:=h.rots
  refine BD _ (λi (d:Bq)=> [(d.flow,0),(d.frm,0),(d.to,0)]++Fw d.turns) x.rots _ h1 λi hi=>?_
  obtain ⟨g,g1,g0,ty,_,_,_,a,c,b,_,o,hc,n⟩:=h3 i hi
  refine B9.append ⟨D5 g1 g0 ty Gh (by decide) a,D5 g1 g0 ty Gh (by decide) c,D5 g1 g0 ty Gh (by decide) b,trivial⟩ ?_
  refine BD _ (λk (d:C6)=> [(d.len,0)]) (x.rots[i]).turns _ o λk q=>?_
  obtain ⟨g,g1,g0,ty,_,a⟩:=n k q
  exact ⟨D5 g1 g0 ty Mi (by decide) a,trivial⟩
 ·obtain ⟨h1,h2,h3⟩:=h.rights
  refine BD _ (λi (d:Bj)=> [(d.flow,0),(d.frm,0),(d.to,0),(d.every,0),(d.len,0)]) x.rights _ h1 λi hi=>?_
  obtain ⟨g,g1,g0,ty,_,_,_,_,_,a,c,b,j,f⟩:=h3 i hi
  exact ⟨D5 g1 g0 ty Cn (by decide) a,D5 g1 g0 ty Cn (by decide) c,D5 g1 g0 ty Cn (by decide) b,D5 g1 g0 ty Cn (by decide) j,D5 g1 g0 ty Cn (by decide) f,trivial⟩
 obtain ⟨h1,h2,h3⟩:=h.duties
 refine BD _ (λi (d:CZ)=> [(d.due,0)]) x.duties _ h1 λi hi=>?_
 obtain ⟨g,g1,g0,ty,_,_,_,a⟩:=h3 i hi
 exact ⟨D5 g1 g0 ty Hs (by decide) a,trivial⟩
end
def EV(N:NP)(w:World)(_:Int)(e:Ex)(b o:Nat):Prop:=∃c,w.rangeAt b o c/\Bm N w e c
def RV(w:World)(_:Int)(r:Rf)(b o:Nat):Prop:=r.name.size<=maxLen/\w.cell? ⟨b,o,none⟩=some (.string r.name)/\w.cell? ⟨b,o+1,none⟩=some (.int .i64 r.n)
theorem Af{w:World}{b o:Nat}{v:Value}{l:LV}(h:w.cell? ⟨b,o,none⟩=some v)(c:w.rangeAt b (o+1) l):w.rangeAt b o (v::l):=λj u a=>by
 cases j with
 |zero=>simp at a;subst a;exact h
 |succ j=>have:=c j u (by simpa using a);rw[show o+(j+1)=o+1+j by omega];exact this
theorem K8{w:World}{b o:Nat}{l m:LV}(h:w.rangeAt b o l)(d:w.rangeAt b (o+l.length) m):w.rangeAt b o (l++m):=λj u a=>by
 rcases xp j l.length with c|c
 ·rw[zI c] at a;exact h j u a
 rw[zn c] at a
 have:=d (j - l.length) u a
 rw[show o+l.length+(j - l.length)=o+j by omega] at this;exact this
theorem U6(w:World)(b o:Nat):w.rangeAt b o []:=λj u a=>by simp at a
theorem Co{w:World}{b o:Nat}{v:Value}(h:w.cell? ⟨b,o,none⟩=some v):w.rangeAt b o [v]:=Af h (U6 _ _ _)
theorem Ob{w:World}{to:Int}{r:Rf}{b o:Nat}(h:RV w to r b o):w.rangeAt b o (B6 r):=Af h.2.1 (Co h.2.2)
theorem BK{w:World}{b o:Nat}{c l:LV}(hc:c.length=6)(h:w.rangeAt b o c)(a:w.rangeAt b (o+6) l):w.rangeAt b o (c++l):=K8 h (by rw[hc];exact a)
theorem Fl{w:World}{to:Int}{r:Rf}{b o:Nat}{l:LV}(h:RV w to r b o)(a:w.rangeAt b (o+2) l):w.rangeAt b o (B6 r++l):=K8 (Ob h) a
theorem EX.isRow{α:Type}{N:NP}{w:World}{t sz:Nat}{P:Nat->Nat->Nat->α->Prop}{h:AA}{l:List α}{Q:LV->α->Prop}(hr:EX N w t sz P h l)(c:∀i g d,P i g (i*sz) d->∃cs,cs.length=sz/\w.rangeAt g (i*sz) cs/\Q cs d):Bg N w sz Q h l:=by
 obtain ⟨h1,h2,h3⟩:=hr
 refine ⟨h1,h2,λi hi=>?_⟩
 obtain ⟨g,g1,g0,ty,a⟩:=h3 i hi
 obtain ⟨cs,q1,q2,b⟩:=c i g _ a
 exact ⟨g,0,cs,g1,g0,q1,by rw[yy];exact q2,b⟩
theorem Cz.srcV{N:NP}{w:World}{L:BQ}{x:AM}(h:Cz N (EV N w) (RV w) w L x):∃cs,cs.length=26/\w.rangeAt L.s 0 cs/\CQ N w L cs x:=by
 obtain ⟨c0,c,a⟩:=h.season
 obtain ⟨c1,r1,k⟩:=h.cap
 obtain ⟨c2,r2,e⟩:=h.start
 have b:=a.len;have j:=k.len;have f:=e.len
 refine ⟨.string x.name::(c0++(c1++(c2++[L.lets.v,L.crops.v,L.reaches.v,L.farms.v,L.rots.v,L.rights.v,L.duties.v]))),by simp[b,j,f],?_,?_⟩
 ·exact Af h.name.2 (BK b c (BK j r1 (BK f r2 (Af h.hlets (Af h.hcrops (Af h.hreaches (Af h.hfarms (Af h.hrots (Af h.hrights (Co h.hduties))))))))))
 refine ⟨h.name.1,⟨c0,c1,c2,rfl,a,k,e⟩,?_,?_,?_,?_,?_,?_,?_⟩
 ·refine h.lets.isRow λi g d ⟨h1,c0,c,a⟩=>?_
  have b:=a.len
  exact ⟨.string d.name::c0,by simp[b],Af h1.2 c,h1.1,c0,rfl,a⟩
 ·refine h.crops.isRow λi g d ⟨h1,c0,c,a⟩=>?_
  have b:=a.len
  exact ⟨.string d.name::c0,by simp[b],Af h1.2 c,h1.1,c0,rfl,a⟩
 ·refine h.reaches.isRow λi g d ⟨h1,hf,⟨c0,c,a⟩,⟨c1,r1,k⟩,⟨c2,r2,e⟩,⟨c3,n,v3⟩,⟨c4,m,v4⟩,⟨c5,r5,v5⟩,⟨c6,u,r⟩,⟨c7,y,p⟩⟩=>?_
  have b:=a.len;have j:=k.len;have f:=e.len;have l3:=v3.len;have l4:=v4.len;have q:=v5.len;have o:=r.len;have B:=p.len
  exact ⟨.string d.name::(B6 d.frm++(c0++(c1++(c2++(c3++(c4++(c5++(c6++c7)))))))),by simp[C3,b,j,f,l3,l4,q,o,B],
   Af h1.2 (Fl hf (BK b c (BK j r1 (BK f r2 (BK l3 n (BK l4 m (BK q r5 (BK o u y)))))))),h1.1,hf.1,c0,c1,c2,c3,c4,c5,c6,c7,rfl,a,k,e,v3,v4,v5,r,p⟩
 ·refine h.farms.isRow λi g d ⟨h1,hf,l,⟨c0,c,a⟩,hc⟩=>?_
  have b:=a.len
  exact ⟨.string d.name::(B6 d.on++(.bool d.river::(c0++B6 d.crop))),by simp[C3,b],Af h1.2 (Fl hf (Af l (BK b c (Ob hc)))),h1.1,hf.1,hc.1,c0,rfl,a⟩
 ·obtain ⟨h1,h2,h3⟩:=h.rots
  refine ⟨h1,h2,λi hi=>?_⟩
  obtain ⟨g,g1,g0,ty,t,hf,l,⟨c0,c,a⟩,⟨c1,r1,k⟩,⟨c2,r2,e⟩,z,A⟩:=h3 i hi
  have b:=a.len;have j:=k.len;have f:=e.len
  refine ⟨g,0,.string (x.rots[i]).name::(B6 (x.rots[i]).on++(iV (x.rots[i]).rank::(c0++(c1++(c2++[(Ac L i).v]))))),g1,g0,by simp[C3,b,j,f],?_,t.1,hf.1,c0,c1,c2,rfl,a,k,e,?_⟩
  ·rw[yy]
   exact Af t.2 (Fl hf (Af l (BK b c (BK j r1 (BK f r2 (Co z))))))
  refine A.isRow λi g d ⟨hf,c0,c,a⟩=>?_
  have b:=a.len
  exact ⟨B6 d.farm++c0,by simp[C3,b],Fl hf c,hf.1,c0,rfl,a⟩
 ·refine h.rights.isRow λi g d ⟨h0,h1,hf,hc,l,⟨c0,c,a⟩,⟨c1,r1,k⟩,⟨c2,r2,e⟩,⟨c3,n,v3⟩,⟨c4,m,v4⟩⟩=>?_
  have b:=a.len;have j:=k.len;have f:=e.len;have l3:=v3.len;have l4:=v4.len
  exact ⟨iV d.kind::.string d.name::(B6 d.farm++(B6 d.reach++(iV d.rank::(c0++(c1++(c2++(c3++c4))))))),by simp[C3,b,j,f,l3,l4],
   Af h0 (Af h1.2 (Fl hf (Fl hc (Af l (BK b c (BK j r1 (BK f r2 (BK l3 n m)))))))),h1.1,hf.1,hc.1,c0,c1,c2,c3,c4,rfl,a,k,e,v3,v4⟩
 refine h.duties.isRow λi g d ⟨h1,hf,hc,⟨c0,c,a⟩⟩=>?_
 have b:=a.len
 exact ⟨.string d.name::(B6 d.farm++(B6 d.reach++c0)),by simp[C3,b],Af h1.2 (Fl hf (Fl hc c)),h1.1,hf.1,hc.1,c0,rfl,a⟩
theorem Lx{ops:Array Oper}{o:Oper}{a:Act}{K:Act->World->Prop}{Q:QT}{E:Prop}{W:World}{t e:TypeId}{q:TypeInfo}{z:Value}{size d:Nat}(P:prog.underlying t=some (.slice e))(hi:prog.info? e=some q)(A:q.zero=some z)(L:q.size=size)(C:q.bytes=d)(I:z.cells.size=size)(G:0 < size)(J:d<=10000)
 (B:Nat)(N:o.guard=none)(s x:Operand)(S:o.op=.call {callee:=.builtin .append,args:=#[s,x],argTypes:=#[t,t]})(v:Value)(n:Nat)(xs:LV)(hs:a.eval s=v)(f:W.ownsRow B e size v n xs)
 (X:Value)(m:Nat)(ys:LV)(T:a.eval x=X)(V:Ce W X m size ys)(w:n+m<=1000000)(l:B<=W.heap.size)
 (h:∀(y:Option Addr) (c:Nat) w',w'.ownsRow B e size (.slice y (n+m) c) (n+m) (xs++ys)->W.grownBy w' v.ownBlock->K (a.put o.dst (.slice y (n+m) c)) w'):
  if Region.wanted o (yielded ops a.tmps)=true then Oper.wp prog o a W K Q else E:=by
 have hw:Region.wanted o (yielded ops a.tmps)=true:=by simp[Region.wanted,N]
 rw[yz hw]
 obtain ⟨p,H,y,cap,rfl,k⟩:=V
 by_cases R:m=0
 ·subst R
  obtain rfl:ys=[]:=zL.1 (by simpa using p)
  have r:=If P hi W B o.type v n xs f y cap
  obtain ⟨va,D,rfl⟩:∃a c,v=.slice a n c:=by
   rcases f.2 with ⟨rfl,M⟩|⟨g,cap,cur,rfl,_⟩
   ·exact ⟨none,0,by rw[M]⟩
   exact ⟨_,_,rfl⟩
  unfold Oper.wp
  simp[execOp,S,resolve,invoke,builtin,hs,T,r,Result.andThen]
  have O:=h va D W (by simpa using f) ⟨rfl,rfl,rfl,yi _,λ_ _ _=>rfl⟩
  rw[qC] at O
  exact O
 obtain ⟨b,F,rfl,hb,hc⟩:=k.resolve_left R
 refine wp_append_own W s x t S B e q z size d P hi A L C I G v n xs hs f (aV b F) m cap ys T p (λj u U=>?_) H (by unfold maxLen;omega) (by
  have:(n+m)*d<=1000000*10000:=qD w J
  omega) l ?_
 ·rw[zO];exact hc j u U
 intro v' w' i hg _
 obtain ⟨va,D,rfl⟩:∃a c,v'=.slice a (n+m) c:=by
  rcases i.2 with ⟨rfl,M⟩|⟨g,cap,cur,rfl,_⟩
  ·exact ⟨none,0,by rw[M]⟩
  exact ⟨_,_,rfl⟩
 exact h va D w' i hg
theorem Ka{ops:Array Oper}{o:Oper}{a:Act}{rest:List Oper}{Q:QT}{W:World}{t e:TypeId}{j:TypeInfo}{z:Value}{size b:Nat}(C:prog.underlying t=some (.slice e))(hi:prog.info? e=some j)(l:j.zero=some z)(w:j.size=size)(p:j.bytes=b)(r:z.cells.size=size)(q:0 < size)(u:b<=10000)
 (B:Nat)(f:o.guard=none)(s x:Operand)(D:o.op=.call {callee:=.builtin .append,args:=#[s,x],argTypes:=#[t,t]})(v:Value)(n:Nat)(xs:LV)(hs:a.eval s=v)(i:W.ownsRow B e size v n xs)
 (X:Value)(m:Nat)(ys:LV)(F:a.eval x=X)(G:Ce W X m size ys)(g:n+m<=1000000)(d:B<=W.heap.size)
 (h:∀(k:Option Addr) (c:Nat) w',w'.ownsRow B e size (.slice k (n+m) c) (n+m) (xs++ys)->W.grownBy w' v.ownBlock->wpList prog ops Q rest (a.put o.dst (.slice k (n+m) c)) w'):wpList prog ops Q (o::rest) a W:=
 yZ f λK y=>by
  have A:=Lx (ops:=ops) (E:=True) (K:=K) (Q:=Q) C hi l w p r q u B f s x D v n xs hs i X m ys F G g d (λk c w' h1 h2=>y _ _ (h k c w' h1 h2))
  rwa [yz (by simp[Region.wanted,f])] at A
theorem GO:∀(a:List LV) (sz:Nat),(∀cs∈a,cs.length=sz)->a.flatten.length=a.length*sz/\∀i (h:i < a.length) j,j < sz->a.flatten[i*sz+j]?=a[i][j]?
 |[],sz,_=>⟨by simp,λi h=>by simp at h⟩
 |c::r,sz,h=>by
  obtain ⟨h1,h2⟩:=GO r sz (λcs hc=>h cs (zP _ hc))
  have hc:=h c xq
  refine ⟨by rw[yD,yn,h1,hc,yr,qK];omega,λi hi j b=>?_⟩
  cases i with
  |zero=>rw[yD,qN,yy,zI (by omega)];rfl
  |succ i=>
   rw[yD,zn (by rw[hc,qK];omega),hc,show (i+1)*sz+j - sz=i*sz+j by rw[qK];omega]
   exact h2 i (by simpa using hi) j b
theorem U7{α:Type}{N:NP}{w:World}{sz:Nat}{Q:LV->α->Prop}{h:AA}{l:List α}(hr:Bg N w sz Q h l)(hN:∀b,N b->b < w.heap.size)(m:∀cs d,Q cs d->∀v∈cs,v.oneCell'=true):
  ∃e:List LV,e.length=l.length/\(∀i (hi:i < e.length) (g:i < l.length),e[i].length=sz/\Q e[i] l[i])/\(∀cs∈e,cs.length=sz)/\Ce w h.v h.n sz e.flatten:=by
 obtain ⟨h1,h2,h3⟩:=hr
 have t:∀i,∃cs:LV,∀(hi:i < l.length),cs.length=sz/\Q cs l[i]/\∃b o,h.a=some (aV b o)/\N b/\w.rangeAt b (o+i*sz) cs:=λi=>by
  by_cases hi:i < l.length
  ·obtain ⟨b,o,cs,g1,E,G,g4,J⟩:=h3 i hi
   exact ⟨cs,λ_=>⟨G,J,b,o,g1,E,g4⟩⟩
  exact ⟨[],λh=>absurd h hi⟩
 obtain ⟨F,k⟩:=Classical.axiomOfChoice t
 have s:((List.range l.length).map F).length=l.length:=by simp
 have hg:∀i (hi:i < ((List.range l.length).map F).length),((List.range l.length).map F)[i]=F i:=λi hi=>by simp
 have p:∀cs∈(List.range l.length).map F,cs.length=sz:=λcs hc=>by
  obtain ⟨i,hi,rfl⟩:=xS.1 hc
  exact (k i (zt.1 hi)).1
 obtain ⟨z,H⟩:=GO _ sz p
 refine ⟨(List.range l.length).map F,s,λi hi g=>by rw[hg i hi];exact ⟨(k i g).1,(k i g).2.1⟩,p,⟨by rw[z,s,h1],λu x=>?_,h.a,h.c,rfl,?_⟩⟩
 ·obtain ⟨cs,hc,x⟩:=List.mem_flatten.1 x
  obtain ⟨i,hi,rfl⟩:=xS.1 hc
  exact m _ _ (k i (zt.1 hi)).2.1 u x
 by_cases h0:h.n=0
 ·exact .inl h0
 obtain ⟨_,_,b,o,A,hb,_⟩:=k 0 (by omega)
 refine .inr ⟨b,o,A,hN b hb,λj u B=>?_⟩
 have r:=(yF.1 B).1
 rw[z,s] at r
 have f:0 < sz:=by
  rcases Nat.eq_zero_or_pos sz with h|h
  ·subst h;omega
  exact h
 have hi:j / sz < l.length:=(Nat.div_lt_iff_lt_mul f).2 r
 have I:j % sz < sz:=qP _ f
 have D:j / sz*sz+j % sz=j:=by rw[Nat.mul_comm];exact Nat.div_add_mod j sz
 have C:=H (j / sz) (by rw[s];exact hi) (j % sz) I
 rw[D,B,hg] at C
 obtain ⟨_,_,K,L,q,_,y⟩:=k (j / sz) hi
 rw[A] at q
 cases q
 have:=y (j % sz) u C.symm
 rw[show o+j / sz*sz+j % sz=o+j by omega] at this
 exact this
def FW{α:Type}(w:World)(t sz:Nat)(Q:LV->α->Prop)(l:List α)(e:Ending)(w':World):Prop:=
 ∃h:AA,e=.returned h.v/\h.n=l.length/\Below w.heap.size w w'/\∀i (hi:i < l.length),∃g cs,h.a=some ⟨g,0,none⟩/\w.heap.size<=g/\Ty w' g t/\cs.length=sz/\w'.rangeAt g (i*sz) cs/\Q cs l[i]
theorem U8{α:Type}{w w1 w':World}{t sz:Nat}{Q:LV->α->Prop}{l:List α}{d:List LV}(E:d.length=l.length)(B:∀i (hi:i < d.length) (A:i < l.length),d[i].length=sz/\Q d[i] l[i])(p:∀cs∈d,cs.length=sz)
 {a:Option Addr}{n c:Nat}(C:n=l.length)(f:w'.ownsRow w.heap.size t sz (.slice a (0+n) c) (0+n) ([]++d.flatten))(hb:Below w.heap.size w w1)(hg:w1.grownBy w' (some w.heap.size))(F:w.heap.size<=w1.heap.size):FW w t sz Q l (.returned (.slice a (0+n) c)) w':=by
 rw[yy,yS] at f
 refine ⟨⟨a,n,c⟩,by rw[yy];rfl,C,hb.trans ⟨hg.os,hg.tape,hg.output,hg.size,λb x=>hg.block b (by omega) (λe=>by cases e;omega)⟩,λi hi=>?_⟩
 obtain ⟨D,z⟩:=GO d sz p
 have h:i < d.length:=by omega
 obtain ⟨q1,q2⟩:=B i h hi
 rcases f.2 with ⟨_,h0⟩|⟨g,cap,cur,r,q,s,_,_,_,y⟩
 ·omega
 simp only[Value.slice.injEq,true_and] at r
 obtain ⟨rfl,rfl⟩:=r
 refine ⟨g,d[i],rfl,q,⟨_,s⟩,q1,λj u v=>?_,q2⟩
 have k:=(yF.1 v).1
 rw[q1] at k
 have m:=(z i h j k).trans v
 rw[<-y] at m
 have o:=(yF.1 m).1
 rw[zM] at o
 rw[xO,yz (by omega)] at m
 simp only[World.cell?,s]
 simpa using m
section
variable{N:NP}{w:World}
theorem Ds(r:Rf):∀v∈B6 r,v.oneCell'=true:=by intro v a;simp[B6] at a;rcases a with rfl|rfl<;>rfl
theorem BJ{v:Value}{l:LV}(h:v.oneCell'=true)(b:∀u∈l,u.oneCell'=true):∀u∈v::l,u.oneCell'=true:=λu a=>(yq.1 a).elim (λe=>e▸h) (b u)
theorem AH{l m:LV}(h:∀u∈l,u.oneCell'=true)(b:∀u∈m,u.oneCell'=true):∀u∈l++m,u.oneCell'=true:=λu a=>(yO.1 a).elim (h u) (b u)
theorem CS{e:Ex}{c:LV}(h:Bm N w e c):∀v∈c,v.oneCell'=true:=by
 obtain ⟨a,cap,rfl,_⟩:=h.cells
 intro v b
 simp at b
 rcases b with rfl|rfl|rfl|rfl|rfl|rfl<;>rfl
theorem Ta(cs:LV)(d:FR)(h:Np N w cs d):∀v∈cs,v.oneCell'=true:=by
 obtain ⟨_,c,rfl,g⟩:=h;exact BJ rfl (CS g)
theorem Q0(cs:LV)(d:DH)(h:K4 N w cs d):∀v∈cs,v.oneCell'=true:=by
 obtain ⟨_,c,rfl,g⟩:=h;exact BJ rfl (CS g)
theorem Oc(cs:LV)(d:AS)(h:Hk N w cs d):∀v∈cs,v.oneCell'=true:=by
 obtain ⟨_,_,c0,c1,c2,c3,c4,c5,c6,c7,rfl,g0,g1,a,b,g4,e,f,c⟩:=h
 exact BJ rfl (AH (Ds _) (AH (CS g0) (AH (CS g1) (AH (CS a) (AH (CS b) (AH (CS g4) (AH (CS e) (AH (CS f) (CS c)))))))))
theorem Q1(cs:LV)(d:BG)(h:K5 N w cs d):∀v∈cs,v.oneCell'=true:=by
 obtain ⟨_,_,_,c,rfl,g⟩:=h;exact BJ rfl (AH (Ds _) (BJ rfl (AH (CS g) (Ds _))))
theorem VE(cs:LV)(d:C6)(h:IA N w cs d):∀v∈cs,v.oneCell'=true:=by
 obtain ⟨_,c,rfl,g⟩:=h;exact AH (Ds _) (CS g)
theorem Od(cs:LV)(d:Bj)(h:Gu N w cs d):∀v∈cs,v.oneCell'=true:=by
 obtain ⟨_,_,_,c0,c1,c2,c3,c4,rfl,g0,g1,b,a,g4⟩:=h
 exact BJ rfl (BJ rfl (AH (Ds _) (AH (Ds _) (BJ rfl (AH (CS g0) (AH (CS g1) (AH (CS b) (AH (CS a) (CS g4)))))))))
theorem Q2(cs:LV)(d:CZ)(h:K6 N w cs d):∀v∈cs,v.oneCell'=true:=by
 obtain ⟨_,_,_,c,rfl,g⟩:=h;exact BJ rfl (AH (Ds _) (AH (Ds _) (CS g)))
end
theorem PF{T e:Nat}(d:prog.underlying T=some (.slice e))(w:World)(a:Option Addr)(n c b c':Nat):(binOp .eql T (.slice a n c) (.slice none b c')).run prog w=.ok (.bool a.isNone) w:=Lib.run_eql_slice_nil w _ _ a n c b c' d
def Gw(fn:Nat):Prop:=∀(w:World) (n c:Nat),Calls prog fn #[.slice none n c] w λe w'=>e=.returned (.slice none 0 0)/\w'=w
def Gx(fn T sz:Nat):Prop:=∀(w:World) (a:Addr) (n c:Nat) (xs:LV) (b:TypeInfo) (z:Value),prog.info? T=some b->b.zero=some z->b.size=sz->z.cells.size=sz->b.bytes<=10000->Ce (w.alloc (.cells #[] T)) (.slice (some a) n c) n sz xs->(w.alloc (.cells #[] T)).ownsRow w.heap.size T sz (.slice (some ⟨w.heap.size,0,none⟩) 0 0) 0 []->0+n<=1000000->w.heap.size<=(w.alloc (.cells #[] T)).heap.size->
  Calls prog fn #[.slice (some a) n c] w λe w'=>∃d c2,e=.returned (.slice d (0+n) c2)/\w'.ownsRow w.heap.size T sz (.slice d (0+n) c2) (0+n) ([]++xs)/\(w.alloc (.cells #[] T)).grownBy w' (some w.heap.size)
theorem E2{fn T sz:Nat}(f:((prog.info? T).bind λi=>i.zero.map λz=>(i.size,z.cells.size,decide (i.bytes<=10000)))=some (sz,sz,true))(x:Gw fn)(A:Gx fn T sz){α:Type}{N:NP}{w:World}{Q:LV->α->Prop}{h:AA}{l:List α}(hr:Bg N w sz Q h l)(hN:∀b,N b->b < w.heap.size)(q:∀cs d,Q cs d->∀v∈cs,v.oneCell'=true)(K:l.length<=100000):
  Calls prog fn #[h.v] w (FW w T sz Q l):=by
 obtain ⟨r,B,G,s,k⟩:=U7 hr hN q
 have m:=hr.1
 obtain ⟨a,n,c⟩:=h
 unfold AA.v at k |-
 simp only at m k
 cases a with
 |none=>
  have t:l.length=0:=by
   rcases Nat.eq_zero_or_pos l.length with h|h
   ·exact h
   obtain ⟨_,_,_,h1,_⟩:=hr.2.2 0 h;cases h1
  refine (x w n c).mono ?_
  rintro e w' ⟨rfl,rfl⟩
  exact ⟨⟨none,0,0⟩,rfl,t.symm,yg _ _,λi hi=>by omega⟩
 |some a=>
  cases hi:prog.info? T with
  |none=>simp[hi] at f
  |some i0=>
  cases y:i0.zero with
  |none=>simp[hi,y] at f
  |some z=>
  simp only[hi,y,zS,zR,zs,qg,yM] at f
  have g:Below w.heap.size w (w.alloc (.cells #[] T)):=(yg _ _).alloc (yi _) _
  refine (A w a n c r.flatten i0 z hi y f.1 f.2.1 f.2.2 ?_ ⟨by simp,.inr ⟨w.heap.size,0,#[],rfl,yi _,World.alloc_heap_new _ _,yi _,yC _,by simp,by simp⟩⟩ (by omega) g.size).mono ?_
  ·obtain ⟨r1,r2,C,c',I,H⟩:=k
   refine ⟨r1,r2,C,c',I,H.imp id ?_⟩
   rintro ⟨b,o,e,hb,hc⟩
   exact ⟨b,o,e,yx hb g.size,λj u E=>(g.cell (p:=(aV b (o+j))) hb).trans (hc j u E)⟩
  rintro e w' ⟨J,c2,rfl,D,F⟩
  exact U8 B G s m D g F g.size
theorem Dt:Gw 114/\Gw 115/\Gw 116/\Gw 117/\Gw 118/\Gw 119/\Gw 120/\Gw 121/\Gw 123:=by
 refine ⟨?_,?_,?_,?_,?_,?_,?_,?_,?_⟩
 all_goals
  intro w n c
  have g:=PF jj
  have q1:=PF jk
  have q2:=PF jl
  have f:=PF jm
  have b:=PF jn
  have h:=PF jo
  have a:=PF jp
  have d:=PF js
  have e:=PF jg
  first|go_enter func114,ntmps114|go_enter func115,ntmps115|go_enter func116,ntmps116|go_enter func117,ntmps117|go_enter func118,ntmps118|go_enter func119,ntmps119|go_enter func120,ntmps120|go_enter func121,ntmps121|go_enter func123,ntmps123
  go_wp2
  go_ret
  exact ⟨rfl,rfl⟩
theorem Du:Gx 114 118 7/\Gx 115 120 7/\Gx 116 123 51/\Gx 117 125 12/\Gx 118 56 23/\Gx 119 127 37/\Gx 120 129 11/\Gx 121 65 8/\Gx 123 40 6:=by
 refine ⟨?_,?_,?_,?_,?_,?_,?_,?_,?_⟩
 all_goals
  intro w a n c xs D z hi g q k l e f d j
  have A:=yb hi;have y:=yb g;have t:=yb q;have u:=yb k;have s:=yb l
  have p:=yb e;have h:=yb f;have i:=yb d;have v:=yb j
  clear hi g q k l e f d j
  have F:=PF jj
  have q1:=PF jk
  have q2:=PF jl
  have E:=PF jm
  have C:=PF jn
  have K:=PF jo
  have H:=PF jp
  have I:=PF js
  have J:=PF jg
  first|go_enter func114,ntmps114|go_enter func115,ntmps115|go_enter func116,ntmps116|go_enter func117,ntmps117|go_enter func118,ntmps118|go_enter func119,ntmps119|go_enter func120,ntmps120|go_enter func121,ntmps121|go_enter func123,ntmps123
  go_wp2_with (first|(at_builtin;refine Ka (by first|exact jj|exact jk|exact jl|exact jm|exact jn|exact jo|exact jp|exact js|exact jg) A.o y.o t.o rfl u.o (by decide) s.o w.heap.size rfl _ _ rfl (.slice (some (aV w.heap.size 0)) 0 0) 0 [] rfl h.o (.slice (some a) n c) n xs rfl p.o i.o v.o ?_;intro B c2 G b m;have r:=yb b;have x:=yb m;clear b m))
  go_ret
  exact ⟨B,c2,by simp,r.o,x.o⟩
theorem U9{α:Type}{N:NP}{w:World}{Q:LV->α->Prop}{h:AA}{l:List α}(hr:Bg N w 7 Q h l)(hN:∀b,N b->b < w.heap.size)(a:∀cs d,Q cs d->∀v∈cs,v.oneCell'=true)(c:l.length<=100000):Calls prog 114 #[h.v] w (FW w 118 7 Q l):=E2 (by kernel_rfl) Dt.1 Du.1 hr hN a c
theorem S3{α:Type}{N:NP}{w:World}{Q:LV->α->Prop}{h:AA}{l:List α}(hr:Bg N w 7 Q h l)(hN:∀b,N b->b < w.heap.size)(a:∀cs d,Q cs d->∀v∈cs,v.oneCell'=true)(c:l.length<=100000):Calls prog 115 #[h.v] w (FW w 120 7 Q l):=E2 (by kernel_rfl) Dt.2.1 Du.2.1 hr hN a c
theorem Q3{α:Type}{N:NP}{w:World}{Q:LV->α->Prop}{h:AA}{l:List α}(hr:Bg N w 51 Q h l)(hN:∀b,N b->b < w.heap.size)(a:∀cs d,Q cs d->∀v∈cs,v.oneCell'=true)(c:l.length<=100000):Calls prog 116 #[h.v] w (FW w 123 51 Q l):=E2 (by kernel_rfl) Dt.2.2.1 Du.2.2.1 hr hN a c
theorem S4{α:Type}{N:NP}{w:World}{Q:LV->α->Prop}{h:AA}{l:List α}(hr:Bg N w 12 Q h l)(hN:∀b,N b->b < w.heap.size)(a:∀cs d,Q cs d->∀v∈cs,v.oneCell'=true)(c:l.length<=100000):Calls prog 117 #[h.v] w (FW w 125 12 Q l):=E2 (by kernel_rfl) Dt.2.2.2.1 Du.2.2.2.1 hr hN a c
theorem Ua{α:Type}{N:NP}{w:World}{Q:LV->α->Prop}{h:AA}{l:List α}(hr:Bg N w 23 Q h l)(hN:∀b,N b->b < w.heap.size)(a:∀cs d,Q cs d->∀v∈cs,v.oneCell'=true)(c:l.length<=100000):Calls prog 118 #[h.v] w (FW w 56 23 Q l):=E2 (by kernel_rfl) Dt.2.2.2.2.1 Du.2.2.2.2.1 hr hN a c
theorem Q4{α:Type}{N:NP}{w:World}{Q:LV->α->Prop}{h:AA}{l:List α}(hr:Bg N w 37 Q h l)(hN:∀b,N b->b < w.heap.size)(a:∀cs d,Q cs d->∀v∈cs,v.oneCell'=true)(c:l.length<=100000):Calls prog 119 #[h.v] w (FW w 127 37 Q l):=E2 (by kernel_rfl) Dt.2.2.2.2.2.1 Du.2.2.2.2.2.1 hr hN a c
theorem S5{α:Type}{N:NP}{w:World}{Q:LV->α->Prop}{h:AA}{l:List α}(hr:Bg N w 11 Q h l)(hN:∀b,N b->b < w.heap.size)(a:∀cs d,Q cs d->∀v∈cs,v.oneCell'=true)(c:l.length<=100000):Calls prog 120 #[h.v] w (FW w 129 11 Q l):=E2 (by kernel_rfl) Dt.2.2.2.2.2.2.1 Du.2.2.2.2.2.2.1 hr hN a c
theorem S6{α:Type}{N:NP}{w:World}{Q:LV->α->Prop}{h:AA}{l:List α}(hr:Bg N w 8 Q h l)(hN:∀b,N b->b < w.heap.size)(a:∀cs d,Q cs d->∀v∈cs,v.oneCell'=true)(c:l.length<=100000):Calls prog 121 #[h.v] w (FW w 65 8 Q l):=E2 (by kernel_rfl) Dt.2.2.2.2.2.2.2.1 Du.2.2.2.2.2.2.2.1 hr hN a c
theorem S7{α:Type}{N:NP}{w:World}{Q:LV->α->Prop}{h:AA}{l:List α}(hr:Bg N w 6 Q h l)(hN:∀b,N b->b < w.heap.size)(a:∀cs d,Q cs d->∀v∈cs,v.oneCell'=true)(c:l.length<=100000):Calls prog 123 #[h.v] w (FW w 40 6 Q l):=E2 (by kernel_rfl) Dt.2.2.2.2.2.2.2.2 Du.2.2.2.2.2.2.2.2 hr hN a c
mutual
def Jl(w:World)(B:NP):Ex->LV->Prop
 |.mk op n u rn ri args,cs=>∃a cap,cs=[.int .i64 op,.int .i64 n,.int .i64 u,.string rn,.int .i64 ri,.slice a args.length cap]/\args.length<=140737488355328/\rn.size<=maxLen/\Eg w B a 0 args
def Eg(w:World)(B:NP)(a:Option Addr):Nat->List Ex->Prop
 |_,[]=>True
 |i,e::r=>(∃g cs,a=some ⟨g,0,none⟩/\B g/\Ty w g 40/\w.rangeAt g (i*6) cs/\Jl w B e cs)/\Eg w B a (i+1) r
end
theorem Tc{w:World}{B:NP}{a:Option Addr}:∀ {l:List Ex} {k:Nat},(∀i (h:i < l.length),∃g cs,a=some ⟨g,0,none⟩/\B g/\Ty w g 40/\w.rangeAt g ((k+i)*6) cs/\Jl w B l[i] cs)->Eg w B a k l
 |[],_,_=>by rw[Eg];trivial
 |e::r,k,h=>by
  rw[Eg]
  refine ⟨h 0 (by simp),Tc λi hi=>?_⟩
  obtain ⟨g,cs,h1,h2,h3,c,b⟩:=h (i+1) (by simpa using hi)
  exact ⟨g,cs,h1,h2,h3,by rw[show k+1+i=k+(i+1) by omega];exact c,by simpa using b⟩
theorem Ty.same{w w':World}{b t:Nat}(h:Ty w b t)(hb:w'.heap[b]?=w.heap[b]?):Ty w' b t:=by
 obtain ⟨c,e⟩:=h
 exact ⟨c,hb.trans e⟩
mutual
theorem Jl.same{w w':World}{B c:NP}(d:∀b,B b->b < w.heap.size->c b)(hb:∀b,B b->b < w.heap.size->w'.heap[b]?=w.heap[b]?):∀ {e:Ex} {cs:LV},Jl w B e cs->Jl w' c e cs
 |.mk _ _ _ _ _ args,_,h=>by
  rw[Jl] at h |-
  obtain ⟨a,cap,h1,h2,h3,f⟩:=h
  exact ⟨a,cap,h1,h2,h3,Eg.same d hb f⟩
theorem Eg.same{w w':World}{B d:NP}(c:∀b,B b->b < w.heap.size->d b){a:Option Addr}(hb:∀b,B b->b < w.heap.size->w'.heap[b]?=w.heap[b]?):∀ {l:List Ex} {k:Nat},Eg w B a k l->Eg w' d a k l
 |[],_,h=>by rw[Eg];trivial
 |e::r,k,h=>by
  rw[Eg] at h |-
  obtain ⟨⟨g,cs,h1,h2,h3,j,f⟩,i⟩:=h
  exact ⟨⟨g,cs,h1,c g h2 h3.lt,h3.same (hb g h2 h3.lt),A8 j (hb g h2 h3.lt),Jl.same c hb f⟩,Eg.same c hb i⟩
end
theorem Jl.mk'{w:World}{B:NP}{e:Ex}{a:Option Addr}{cap:Nat}(h1:e.args.length<=140737488355328)(h2:e.rn.size<=maxLen)(h3:Eg w B a 0 e.args):
  Jl w B e [.int .i64 e.op,.int .i64 e.n,.int .i64 e.u,.string e.rn,.int .i64 e.ri,.slice a e.args.length cap]:=by
 cases e
 rw[Jl]
 exact ⟨a,cap,rfl,h1,h2,h3⟩
def aH(W:World)(b o:Nat)(args:List Ex)(w':World):Prop:=
 W.grownBy w' (some b)/\(∀p,p≠o+5->w'.cell? ⟨b,p,none⟩=W.cell? ⟨b,p,none⟩)/\(∀t,Ty W b t->Ty w' b t)/\∃a cap,w'.cell? ⟨b,o+5,none⟩=some (.slice a args.length cap)/\Eg w' (λb=>W.heap.size<=b) a 0 args
mutual
def Mj:Ex->Prop
 |.mk _ _ _ _ _ args=>args.length<=100000/\L9 args
def L9:List Ex->Prop
 |[]=>True
 |e::r=>Mj e/\L9 r
end
theorem Oe:∀ {l:List Ex},L9 l->∀i (h:i < l.length),Mj l[i]
 |[],_,i,h=>by simp at h
 |e::r,hl,0,_=>by rw[L9] at hl;exact hl.1
 |e::r,hl,i+1,h=>by rw[L9] at hl;exact Oe hl.2 i (by simpa using h)
theorem Kb{W w':World}{b c p:Nat}(h:W.grownBy w' (some b))(hc:c < W.heap.size)(a:c≠b):w'.cell? ⟨c,p,none⟩=W.cell? ⟨c,p,none⟩:=by
 unfold World.cell?
 rw[h.block c hc (λe=>a (by cases e;rfl))]
theorem Ty.frozen{w:World}{b t p:Nat}(h:Ty w b t):w.frozen? ⟨b,p,none⟩=false:=by
 obtain ⟨c,e⟩:=h
 simp[World.frozen?,e]
theorem As{W:World}{b p:Nat}{u:Value}(v:Value)(hc:W.cell? ⟨b,p,none⟩=some u):
  W.grownBy (W.setCell ⟨b,p,none⟩ v) (some b)/\(∀q,q≠p->(W.setCell ⟨b,p,none⟩ v).cell? ⟨b,q,none⟩=W.cell? ⟨b,q,none⟩)/\(∀t,Ty W b t->Ty (W.setCell ⟨b,p,none⟩ v) b t)/\(W.setCell ⟨b,p,none⟩ v).cell? ⟨b,p,none⟩=some v:=by
 refine ⟨⟨rfl,rfl,rfl,by simp,λi _ a=>zg W (aV b p) i v (λe=>a (by rw[e]))⟩,λq d=>World.cell?_setCell_other _ _ _ _ (λe=>d (by cases e;rfl)),?_,World.cell?_setCell_same _ _ _ hc⟩
 rintro t ⟨c,e⟩
 exact ⟨_,zp W b p c t v e⟩
structure Xv (W:World) (N:Nat->Prop) (b o:Nat) (a:Option Addr) (c:Nat) (args:List Ex) (i:Nat) (wr:World):Prop where
 grown:W.grownBy wr (some b)
 cells:∀p,p≠o+5->wr.cell? ⟨b,p,none⟩=W.cell? ⟨b,p,none⟩
 hdr:wr.cell? ⟨b,o+5,none⟩=some (.slice a args.length c)
 ty:∀t,Ty W b t->Ty wr b t
 rows:∀j (h:j < args.length),∃g cs,a=some ⟨g,0,none⟩/\W.heap.size<=g/\Ty wr g 40/\wr.rangeAt g (j*6) cs/\((j < i/\Jl wr (λb=>g+1<=b) args[j] cs)\/(i<=j/\Bm N wr args[j] cs))
theorem Xv.drew{W:World}{N:NP}{b o:Nat}{a:Option Addr}{c:Nat}{args:List Ex}{i:Nat}{wr:World}(h:Xv W N b o a c args i wr):Xv W N b o a c args i wr.drew:=by
 refine ⟨⟨h.grown.os,h.grown.tape,h.grown.output,h.grown.size,h.grown.block⟩,h.cells,h.hdr,h.ty,λj f=>?_⟩
 obtain ⟨g,cs,h1,h2,h3,d,e⟩:=h.rows j f
 refine ⟨g,cs,h1,h2,h3,d,e.imp (λh=>⟨h.1,Jl.same (w:=wr) (w':=wr.drew) (λ_ h _=>h) (λ_ _ _=>rfl) h.2⟩) (λh=>⟨h.1,Bm.same (w:=wr) (w':=wr.drew) (λ_ h=>h) (λ_ _=>rfl) h.2⟩)⟩
theorem Xv.next{W:World}{N:NP}{b o:Nat}{a:Option Addr}{c:Nat}{args:List Ex}{i:Nat}{wr w4:World}(h:Xv W N b o a c args i wr)(hi:i < args.length)(hb:b < W.heap.size)(hN:∀c,N c->c < W.heap.size/\c≠b){g:Nat}(hg:a=some ⟨g,0,none⟩)
 (u:aH wr g (i*6) args[i].args w4):Xv W N b o a c args (i+1) w4:=by
 obtain ⟨f,l,G,a',C,I,U⟩:=u
 obtain ⟨g0,cs,h1,h2,h3,Z,h5⟩:=h.rows i hi
 obtain rfl:g=g0:=by rw[hg] at h1;cases h1;rfl
 have P:=h.grown.size
 have y:b≠g:=by omega
 have O:=h3.lt
 have E:w4.heap[b]?=wr.heap[b]?:=f.block b (by omega) (λe=>y (by cases e;rfl))
 have D:∀p,w4.cell? (aV b p)=wr.cell? (aV b p):=λp=>by unfold World.cell?;rw[E]
 refine ⟨⟨f.os.trans h.grown.os,f.tape.trans h.grown.tape,f.output.trans h.grown.output,yG P f.size,λq S n=>(f.block q (by omega) (λe=>by cases e;omega)).trans (h.grown.block q S n)⟩,λp X=>(D p).trans (h.cells p X),(D _).trans h.hdr,λt L=>(h.ty t L).same E,λj R=>?_⟩
 obtain ⟨g1,J,q1,q2,B,z,d⟩:=h.rows j R
 obtain rfl:g=g1:=by rw[hg] at q1;cases q1;rfl
 by_cases r:j=i
 ·subst r
  rcases d with ⟨d,_⟩|⟨_,d⟩
  ·omega
  obtain ⟨a0,A,rfl,M,Q,Y⟩:=d.cells
  obtain ⟨K,r1,r2,V,T,r5⟩:=BP z
  refine ⟨g,_,q1,q2,G _ B,Af ((l _ (by omega)).trans K) (Af ((l _ (by omega)).trans r1) (Af ((l _ (by omega)).trans r2) (Af ((l _ (by omega)).trans V) (Af ((l _ (by omega)).trans T) (Co I))))),.inl ⟨by omega,Jl.mk' M Q (U.same (λx m _=>by have:wr.heap.size<=x:=m;show g+1<=x;omega) (λ_ _ _=>rfl))⟩⟩
 refine ⟨g,J,q1,q2,G _ B,λk v F=>?_,?_⟩
 ·have hl:k < 6:=by
   have h1:=(yF.1 F).1
   rcases d with ⟨_,d⟩|⟨_,d⟩
   ·cases H:args[j] with
    |mk=>rw[H,Jl] at d;obtain ⟨_,_,rfl,_⟩:=d;simpa using h1
   rw[d.len] at h1;exact h1
  exact (l _ (by omega)).trans (z k v F)
 rcases d with ⟨d,w⟩|⟨d,w⟩
 ·exact .inl ⟨by omega,w.same (λ_ h _=>h) (λx m s=>f.block x s (λe=>by cases e;have:g+1<=g:=m;omega))⟩
 exact .inr ⟨by omega,w.same (λ_ h=>h) (λx m=>f.block x (by have:=(hN x m).1;omega) (λe=>by cases e;have:=(hN g m).1;omega))⟩
theorem VF(N:NP)(Bx:Nat):∀(e:Ex) (b o t:Nat) (cs:LV) (W:World),Bm N W e cs->W.rangeAt b o cs->Ty W b t->Mj e->(∀c,N c->c < W.heap.size/\c≠b)->Bx≠b->W.cell? ⟨Bx,0,none⟩=some (.func (.func 122) #[] #[.pointer (some ⟨Bx,0,none⟩)])->
  Calls prog 122 #[.pointer (some ⟨b,o,none⟩),.pointer (some ⟨Bx,0,none⟩)] W λx w'=>x=.returned (.tuple #[])/\aH W b o e.args w':=by
 refine LX λop nn u rn ri args ih=>?_
 intro b o t cs W O L ty A hN T z
 rw[Bm] at O
 obtain ⟨a,cap,rfl,hl,hr,E⟩:=O
 rw[Mj] at A
 obtain ⟨-, -, -, -, -,c5⟩:=BP L
 have Y:Bg N W 6 (λc d=>Bm N W d c) ⟨a,args.length,cap⟩ args:=⟨rfl,hl,λi hi=>by
  obtain ⟨b',o',c,g1,g2,g3,g4⟩:=FP E i hi
  exact ⟨b',o',c,g1,g2,g4.len,by rw[yy] at g3;exact g3,g4⟩⟩
 have w:=S7 Y (λc hc=>(hN c hc).1) (λc d h=>CS h) A.1
 have a8:=yb w
 have IH:=yb ih
 have HN:=yb hN
 have ab:=yb ty
 have ac:=yb A.2
 have af:=yb A.1
 have Z:=yb (yU W _ z)
 have r:=yb (yU W _ c5)
 have X:=yb T
 have y:=yb z
 show Calls _ _ _ _ (λx w'=>x=.returned (.tuple #[])/\aH W b o args w')
 clear Y w ih hN ty A L E z T hl hr
 go_enter func122,ntmps122
 go_wp2_with (first|(go_at_call 123;refine a8.o.mono ?_;rintro e w1 ⟨⟨l,n',f⟩,rfl,I,D,n⟩;rw[show AA.v ⟨l,n',f⟩=Value.slice l n' f from rfl];simp only at I n;have d5:=(D.cell (p:=(aV b (o+5))) r.o).trans c5;have df:=(Ty.same ab.o (D.block b r.o)).frozen (p:=o+5);have m:=yb D;have S:=yb I;have s:=yb n;clear D I n))
 obtain rfl:=S.o.symm
 have hI:Xv W N b o l f args 0 (w1.setCell (aV b (o+5)) (.slice l args.length f)):=by
  obtain ⟨s1,s2,s3,s4⟩:=As (.slice l args.length f) d5
  have ae:=m.o.size
  refine ⟨⟨s1.os.trans m.o.os,s1.tape.trans m.o.tape,s1.output.trans m.o.output,yG ae s1.size,λq hq ad=>(s1.block q (by omega) ad).trans (m.o.block q hq)⟩,λp hp=>(s2 p hp).trans (m.o.cell (p:=(aV b p)) r.o),s4,λt ht=>s3 t (ht.same (m.o.block b r.o)),λj hj=>?_⟩
  obtain ⟨g,cs,q1,q2,H,K,J,q6⟩:=s.o j hj
  have a6:g≠b:=by have:=r.o;omega
  have hg:(w1.setCell (aV b (o+5)) (.slice l args.length f)).heap[g]?=w1.heap[g]?:=s1.block g H.lt (λe=>a6 (by cases e;rfl))
  refine ⟨g,cs,q1,q2,H.same hg,A8 J hg,.inr ⟨yC _,q6.same (λ_ h=>h) (λx hx=>?_)⟩⟩
  have P:=HN.o x hx
  exact (s1.block x (by omega) (λe=>P.2 (by cases e;rfl))).trans (m.o.block x P.1)
 have Q:=yb hI
 have ag:args.length<=100000:=af.o
 clear hI d5 df c5
 generalize w1.setCell (aV b (o+5)) (.slice l args.length f)=w2 at*
 have e5:=Q.o.hdr
 clear m s S
 go_wp2
 clear e5
 go_loopw [17] (λiv wr=>∃i:Nat,i<=args.length/\iv=iV i/\Hid (Xv W N b o l f args i wr)) (λiv _=>args.length - (intOf iv).toNat)
 case atStart=>exact ⟨0,yC _,rfl,Q⟩
 obtain ⟨i,hi,rfl,k⟩:=hrel
 by_cases C:i < args.length
 ·obtain ⟨g,cs,rfl,q2,H,K,J⟩:=k.o.drew.rows i C
  have O:Bm N wr.drew args[i] cs:=J.elim (λh=>by omega) (λh=>h.2)
  have hz:=k.o.grown.size
  have M:=r.o
  have G:=Z.o
  have B:wr.drew.cell? (aV Bx 0)=some (.func (.func 122) #[] #[pV Bx 0]):=(Kb k.o.grown G X.o).trans y.o
  have F:=IH.o args[i] (yR C) g (i*6) 40 cs wr.drew O K H (Oe ac.o i C) (λc hc=>by have:=HN.o c hc;show c < wr.heap.size/\_;omega) (by omega) B
  have R:=yb F
  have a1:(i:Int) < (args.length:Int):=by omega
  have U:=λw4=>k.o.drew.next (w4:=w4) C M HN.o rfl
  have aa:=yb U
  have e5:=k.o.hdr
  have eB:wr.cell? (aV Bx 0)=some (.func (.func 122) #[] #[pV Bx 0]):=B
  have a2:Hid (wr.drew.cell? (aV Bx 0)=some (.func (.func 122) #[] #[pV Bx 0])/\wr.drew.cell? (aV b (o+5))=some (.slice (some (aV g 0)) args.length f)):=yb ⟨B,e5⟩
  have HQ:Hid (∀w4,Xv W N b o (some (aV g 0)) f args (i+1) w4->w4.cell? (aV Bx 0)=some (.func (.func 122) #[] #[pV Bx 0])/\w4.cell? (aV b (o+5))=some (.slice (some (aV g 0)) args.length f)):=yb (λw4 h=>⟨(Kb h.grown G X.o).trans y.o,h.hdr⟩)
  clear O q2 H K J hz M G B F U
  go_wp2_with fail
  go_region_held3 (λw'=>w'.cell? (aV Bx 0)=some (.func (.func 122) #[] #[pV Bx 0])/\w'.cell? (aV b (o+5))=some (.slice (some (aV g 0)) args.length f)) (first|exact a2.o|exact a7.o)
   (first|(go_at_call 122;refine R.o.mono ?_;rintro e w4 ⟨rfl,w⟩;have V:=yb (aa.o w4 w);have a7:=yb (HQ.o w4 V.o);clear w))
  go_wp2
  exact ⟨⟨i+1,by omega,by push_cast;rfl,V⟩,by simp[intOf];omega⟩
 obtain rfl:i=args.length:=by omega
 have a1:decide ((args.length:Int) < (args.length:Int))=false:=by simp
 go_wp2
 go_end0
 refine ⟨rfl,k.o.grown,k.o.cells,k.o.ty,l,f,k.o.hdr,Tc λj hj=>?_⟩
 obtain ⟨g,cs,q1,q2,H,K,J⟩:=k.o.rows j hj
 rw[yy]
 exact ⟨g,cs,q1,q2,H,K,J.elim (λh=>h.2.same (λx hx _=>by have:g+1<=x:=hx;show W.heap.size<=x;omega) (λ_ _ _=>rfl)) (λh=>by omega)⟩
theorem Td:∀(e:Ex) {N N':NP} {w:World} {d:Ex} {cs:LV},Bm N w e cs->Bm N' w d cs->e=d:=by
 refine LX λop A u rn ri args ih=>?_
 intro N N' w d cs h q
 cases d with
 |mk op' nn' u' rn' ri' args'=>
  rw[Bm] at h q
  obtain ⟨a,cap,rfl,_,_,hr⟩:=h
  obtain ⟨z,n,l,_,_,f⟩:=q
  simp only[zZ,Value.int.injEq,Value.string.injEq,Value.slice.injEq,true_and,qp] at l
  obtain ⟨rfl,rfl,rfl,rfl,rfl,rfl,s,rfl⟩:=l
  have:args=args':=by
   refine xZ s λi hi g=>?_
   obtain ⟨b,o,c,g1,_,r,g4⟩:=FP hr i hi
   obtain ⟨x,y,c',p,_,v,m⟩:=FP f i g
   rw[g1] at p
   cases p
   have hc:c=c':=by
    refine xZ (by rw[g4.len,m.len]) λj t k=>?_
    have h1:=r j _ (yk t)
    have h2:=v j _ (yk k)
    rw[h1] at h2
    exact yf h2
   subst hc
   exact ih _ (yR hi) g4 m
  rw[this]
mutual
theorem Jl.exV{w:World}{M N:NP}(hM:∀b,M b->b < w.heap.size->N b):∀ {e:Ex} {cs:LV},Jl w M e cs->Bm N w e cs
 |.mk _ _ _ _ _ args,_,h=>by
  rw[Jl] at h
  rw[Bm]
  obtain ⟨a,cap,h1,h2,h3,c⟩:=h
  exact ⟨a,cap,h1,h2,h3,Eg.rowV hM c⟩
theorem Eg.rowV{w:World}{M N:NP}{a:Option Addr}(hM:∀b,M b->b < w.heap.size->N b):∀ {l:List Ex} {k:Nat},Eg w M a k l->Ez N w a k l
 |[],_,h=>by rw[Ez];trivial
 |e::r,k,h=>by
  rw[Eg] at h
  rw[Ez]
  obtain ⟨⟨g,cs,h1,h2,h3,f,c⟩,d⟩:=h
  exact ⟨⟨g,0,cs,h1,hM g h2 h3.lt,by rw[yy];exact f,Jl.exV hM c⟩,Eg.rowV hM d⟩
end
def Iq{α:Type}(B:Nat)(W:World)(t sz:Nat)(Q:LV->α->Prop)(h:AA)(l:List α):Prop:=
 h.n=l.length/\∀i (hi:i < l.length),∃g cs,h.a=some ⟨g,0,none⟩/\B<=g/\Ty W g t/\cs.length=sz/\W.rangeAt g (i*sz) cs/\Q cs l[i]
theorem Iq.of{α:Type}{B b:Nat}{W:World}{t sz:Nat}{Q:LV->α->Prop}{h:AA}{l:List α}(d:h.n=l.length)(c:B<=b)(hr:∀i (hi:i < l.length),∃g cs,h.a=some ⟨g,0,none⟩/\b<=g/\Ty W g t/\cs.length=sz/\W.rangeAt g (i*sz) cs/\Q cs l[i]):Iq B W t sz Q h l:=
 ⟨d,λi hi=>by
  obtain ⟨g,cs,h1,h2,h3⟩:=hr i hi
  exact ⟨g,cs,h1,yG c h2,h3⟩⟩
theorem Iq.up{α:Type}{B:Nat}{W W':World}{t sz:Nat}{Q:LV->α->Prop}{h:AA}{l:List α}(hr:Iq B W t sz Q h l)(hb:∀b,B<=b->b < W.heap.size->W'.heap[b]?=W.heap[b]?):Iq B W' t sz Q h l:=
 ⟨hr.1,λi hi=>by
  obtain ⟨g,cs,h1,h2,h3,a,c,d⟩:=hr.2 i hi
  exact ⟨g,cs,h1,h2,h3.same (hb g h2 h3.lt),a,A8 c (hb g h2 h3.lt),d⟩⟩
theorem Iq.upT{α:Type}{B:Nat}{W W':World}{t sz:Nat}{Q:LV->α->Prop}{h:AA}{l:List α}(hr:Iq B W t sz Q h l)(hb:∀b,B<=b->Ty W b t->W'.heap[b]?=W.heap[b]?):Iq B W' t sz Q h l:=
 ⟨hr.1,λi hi=>by
  obtain ⟨g,cs,h1,h2,h3,a,c,d⟩:=hr.2 i hi
  exact ⟨g,cs,h1,h2,h3.same (hb g h2 h3),a,A8 c (hb g h2 h3),d⟩⟩
theorem CG{w:World}{b o:Nat}{v:Value}{l:LV}(h:w.rangeAt b o (v::l)):w.cell? ⟨b,o,none⟩=some v/\w.rangeAt b (o+1) l:=
 ⟨h 0 v rfl,λj u a=>by have:=h (j+1) u (by simpa using a);rw[show o+1+j=o+(j+1) by omega];exact this⟩
theorem Of{w:World}{b o:Nat}{l m:LV}(h:w.rangeAt b o (l++m)):w.rangeAt b o l/\w.rangeAt b (o+l.length) m:=
 ⟨λj u a=>h j u (by rw[zI (yF.1 a).1];exact a),λj u a=>by
  have:=h (l.length+j) u (by rw[zn (by omega),xk];exact a)
  rw[show o+l.length+j=o+(l.length+j) by omega];exact this⟩
theorem Cp{w:World}{b o:Nat}{c l:LV}(hc:c.length=6)(h:w.rangeAt b o (c++l)):w.rangeAt b o c/\w.rangeAt b (o+6) l:=by
 have:=Of h
 rw[hc] at this;exact this
theorem EC{w:World}{b o:Nat}{r:Rf}{l:LV}(hs:r.name.size<=maxLen)(to:Int)(h:w.rangeAt b o (B6 r++l)):RV w to r b o/\w.rangeAt b (o+2) l:=by
 obtain ⟨h1,h2⟩:=Of h
 exact ⟨⟨hs,h1 0 _ rfl,h1 1 _ rfl⟩,h2⟩
section
variable{N N':NP}{w W:World}{B:Nat}{h:AA}
theorem DK(hb:∀b,N b->W.heap[b]?=w.heap[b]?){e:Ex}{c:LV}{b o:Nat}(lt:Int)(a:Bm N w e c)(hr:W.rangeAt b o c):EV N W lt e b o:=⟨c,hr,a.same (λ_ h=>h) hb⟩
theorem Ht{α:Type}{t sz:Nat}{Q:LV->α->Prop}{P:Nat->Nat->Nat->α->Prop}{l:List α}(hr:Iq B W t sz Q h l)(f:l.length<=100000)(hN:∀g,B<=g->N' g)(d:∀i (_:i < l.length) g cs,h.a=some ⟨g,0,none⟩->W.rangeAt g (i*sz) cs->Q cs l[i]->P i g (i*sz) l[i]):EX N' W t sz P h l:=
 ⟨hr.1,by omega,λi hi=>by
  obtain ⟨g,cs,h1,h2,h3,e,b,c⟩:=hr.2 i hi
  exact ⟨g,h1,hN g h2,h3,d i hi g cs h1 b c⟩⟩
variable(hb:∀b,N b->W.heap[b]?=w.heap[b]?)
include hb
theorem Ub(i g o:Nat)(cs:LV)(d:FR)(hr:W.rangeAt g o cs)(h:Np N w cs d):Zq (EV N W) W i g o d:=by
 obtain ⟨h1,c,rfl,h2⟩:=h
 obtain ⟨a,r1⟩:=CG hr
 exact ⟨⟨h1,a⟩,DK hb _ h2 r1⟩
theorem S8(i g o:Nat)(cs:LV)(d:DH)(hr:W.rangeAt g o cs)(h:K4 N w cs d):Ys (EV N W) W i g o d:=by
 obtain ⟨h1,c,rfl,h2⟩:=h
 obtain ⟨a,r1⟩:=CG hr
 exact ⟨⟨h1,a⟩,DK hb _ h2 r1⟩
theorem Q5(i g o:Nat)(cs:LV)(d:AS)(hr:W.rangeAt g o cs)(h:Hk N w cs d):VB (EV N W) (RV W) W i g o d:=by
 obtain ⟨h1,h2,c0,c1,c2,c3,c4,c5,c6,c7,rfl,g0,g1,a,b,g4,c,e,s⟩:=h
 obtain ⟨k,r⟩:=CG hr
 obtain ⟨f,r⟩:=EC h2 (if i=0 then 0 else 6) r
 obtain ⟨s0,r⟩:=Cp g0.len r
 obtain ⟨s1,r⟩:=Cp g1.len r
 obtain ⟨m,r⟩:=Cp a.len r
 obtain ⟨l,r⟩:=Cp b.len r
 obtain ⟨n,r⟩:=Cp g4.len r
 obtain ⟨j,r⟩:=Cp c.len r
 obtain ⟨p,q⟩:=Cp e.len r
 exact ⟨⟨h1,k⟩,f,DK hb _ g0 s0,DK hb _ g1 s1,DK hb _ a m,DK hb _ b l,DK hb _ g4 n,DK hb _ c j,DK hb _ e p,DK hb _ s q⟩
theorem S9(i g o:Nat)(cs:LV)(d:BG)(hr:W.rangeAt g o cs)(h:K5 N w cs d):Yt (EV N W) (RV W) W i g o d:=by
 obtain ⟨h1,h2,h3,c0,rfl,g0⟩:=h
 obtain ⟨a,r⟩:=CG hr
 obtain ⟨f,r⟩:=EC h2 4 r
 obtain ⟨v,r⟩:=CG r
 obtain ⟨s0,r⟩:=Cp g0.len r
 obtain ⟨b,_⟩:=EC (l:=[]) h3 (if d.river then 0 else 3) (by rw[yE];exact r)
 exact ⟨⟨h1,a⟩,f,v,DK hb _ g0 s0,b⟩
theorem Sa(i g o:Nat)(cs:LV)(d:C6)(hr:W.rangeAt g o cs)(h:IA N w cs d):Yu (EV N W) (RV W) i g o d:=by
 obtain ⟨h1,c0,rfl,g0⟩:=h
 obtain ⟨f,r⟩:=EC h1 5 hr
 exact ⟨f,DK hb _ g0 r⟩
theorem Q6(i g o:Nat)(cs:LV)(d:Bj)(hr:W.rangeAt g o cs)(h:Gu N w cs d):VC (EV N W) (RV W) W i g o d:=by
 obtain ⟨h1,h2,h3,c0,c1,c2,c3,c4,rfl,g0,g1,a,b,g4⟩:=h
 obtain ⟨k,r⟩:=CG hr
 obtain ⟨c,r⟩:=CG r
 obtain ⟨f,r⟩:=EC h2 5 r
 obtain ⟨m,r⟩:=EC h3 (if d.kind=1 then 0 else 4) r
 obtain ⟨v,r⟩:=CG r
 obtain ⟨s0,r⟩:=Cp g0.len r
 obtain ⟨s1,r⟩:=Cp g1.len r
 obtain ⟨j,r⟩:=Cp a.len r
 obtain ⟨e,l⟩:=Cp b.len r
 exact ⟨k,⟨h1,c⟩,f,m,v,DK hb _ g0 s0,DK hb _ g1 s1,DK hb _ a j,DK hb _ b e,DK hb _ g4 l⟩
theorem Sb(i g o:Nat)(cs:LV)(d:CZ)(hr:W.rangeAt g o cs)(h:K6 N w cs d):Yv (EV N W) (RV W) W i g o d:=by
 obtain ⟨h1,h2,h3,c0,rfl,g0⟩:=h
 obtain ⟨a,r⟩:=CG hr
 obtain ⟨f,r⟩:=EC h2 5 r
 obtain ⟨b,r⟩:=EC h3 4 r
 exact ⟨⟨h1,a⟩,f,b,DK hb _ g0 r⟩
end
structure Nt (x:AM):Prop where
 lets:x.lets.length<=100000
 crops:x.crops.length<=100000
 reaches:x.reaches.length<=100000
 farms:x.farms.length<=100000
 rots:x.rots.length<=100000
 rights:x.rights.length<=100000
 duties:x.duties.length<=100000
 turns:∀d∈x.rots,d.turns.length<=100000
 exprs:∀e∈Ba x,Mj e.1
theorem VG{N N':NP}{w U W:World}{B:Nat}{L L':BQ}{l:List Bq}(hb:∀b,N b->W.heap[b]?=w.heap[b]?)(hr:Iq B U 56 23 (λcs (d:Bq × Nat)=>Ip N w (Ac L d.2) cs d.1) L'.rots l.zipIdx)(hN:∀g,B<=g->N' g)(K:l.length<=100000)
 (o:∀d∈l,d.turns.length<=100000)(p:∀g,L'.rots.a=some ⟨g,0,none⟩->Ty U g 56->Ty W g 56)(hc:∀g,L'.rots.a=some ⟨g,0,none⟩->∀i q,q < 22->W.cell? ⟨g,i*23+q,none⟩=U.cell? ⟨g,i*23+q,none⟩)
 (A:∀i (_:i < l.length) g,L'.rots.a=some ⟨g,0,none⟩->W.cell? ⟨g,i*23+22,none⟩=some (Ac L' i).v)(F:∀i (h:i < l.length),Iq B W 65 8 (IA N w) (Ac L' i) l[i].turns):
  EX N' W 56 23 (YQ N' (EV N W) (RV W) W (Ac L')) L'.rots l:=by
 refine ⟨by have:=hr.1;rwa [zW] at this,by omega,λi hi=>?_⟩
 obtain ⟨g,cs,n,C,G,J,I,t⟩:=hr.2 i (by rw[zW];exact hi)
 rw[qM] at t
 simp only[yy] at t
 refine ⟨g,n,hN g C,p g n G,?_⟩
 obtain ⟨h1,h2,c0,c1,c2,rfl,g0,g1,y,_⟩:=t
 have x:W.rangeAt g (i*23) (.string l[i].name::(B6 l[i].on++(iV l[i].rank::(c0++(c1++c2))))):=λj u z=>by
  have c:=(yF.1 z).1
  have m:(Value.string l[i].name::(B6 l[i].on++(iV l[i].rank::(c0++(c1++c2))))).length=22:=by simp[C3,g0.len,g1.len,y.len]
  rw[m] at c
  rw[hc g n i j c]
  refine I j u ?_
  have e:(Value.string l[i].name::(B6 l[i].on++(iV l[i].rank::(c0++(c1++(c2++[(Ac L i).v]))))))=(Value.string l[i].name::(B6 l[i].on++(iV l[i].rank::(c0++(c1++c2)))))++[(Ac L i).v]:=by simp
  rw[e,zI (by omega)]
  exact z
 obtain ⟨D,r⟩:=CG x
 obtain ⟨f,r⟩:=EC h2 4 r
 obtain ⟨v,r⟩:=CG r
 obtain ⟨s0,r⟩:=Cp g0.len r
 obtain ⟨s1,E⟩:=Cp g1.len r
 exact ⟨⟨h1,D⟩,f,v,DK hb _ g0 s0,DK hb _ g1 s1,DK hb _ y E,A i hi g n,Ht (F i hi) (o _ (yR hi)) hN (λk M g cs _ s H=>Sa hb k g (k*8) cs _ s H)⟩
theorem Sc{N N':NP}{w W:World}{B:Nat}{L:BQ}{x:AM}{a0 e h:Option Addr}{c d f:Nat}(hb:∀b,N b->W.heap[b]?=w.heap[b]?)(hN:∀g,B<=g->N' g)(hs:Nt x)
 (hc:W.heap[L.s]?=some (.cells #[.string x.name,.int .i64 x.season.op,.int .i64 x.season.n,.int .i64 x.season.u,.string x.season.rn,.int .i64 x.season.ri,.slice a0 x.season.args.length c,.int .i64 x.cap.op,.int .i64 x.cap.n,.int .i64 x.cap.u,.string x.cap.rn,.int .i64 x.cap.ri,.slice e x.cap.args.length d,.int .i64 x.start.op,.int .i64 x.start.n,.int .i64 x.start.u,.string x.start.rn,.int .i64 x.start.ri,.slice h x.start.args.length f,L.lets.v,L.crops.v,L.reaches.v,L.farms.v,L.rots.v,L.rights.v,L.duties.v] 49 (0,0)))(p:x.name.size<=maxLen)(h0:Bm N w x.season [.int .i64 x.season.op,.int .i64 x.season.n,.int .i64 x.season.u,.string x.season.rn,.int .i64 x.season.ri,.slice a0 x.season.args.length c])(h1:Bm N w x.cap [.int .i64 x.cap.op,.int .i64 x.cap.n,.int .i64 x.cap.u,.string x.cap.rn,.int .i64 x.cap.ri,.slice e x.cap.args.length d])(h2:Bm N w x.start [.int .i64 x.start.op,.int .i64 x.start.n,.int .i64 x.start.u,.string x.start.rn,.int .i64 x.start.ri,.slice h x.start.args.length f])
 (q:Iq B W 118 7 (Np N w) L.lets x.lets)(rc:Iq B W 120 7 (K4 N w) L.crops x.crops)(m:Iq B W 123 51 (Hk N w) L.reaches x.reaches)(l:Iq B W 125 12 (K5 N w) L.farms x.farms)
 (k:EX N' W 56 23 (YQ N' (EV N W) (RV W) W (Ac L)) L.rots x.rots)(ri:Iq B W 127 37 (Gu N w) L.rights x.rights)(r:Iq B W 129 11 (K6 N w) L.duties x.duties):Cz N' (EV N W) (RV W) W L x:=by
 have cell:∀j v,#[.string x.name,iV x.season.op,iV x.season.n,iV x.season.u,.string x.season.rn,iV x.season.ri,.slice a0 x.season.args.length c,iV x.cap.op,iV x.cap.n,iV x.cap.u,.string x.cap.rn,iV x.cap.ri,.slice e x.cap.args.length d,iV x.start.op,iV x.start.n,iV x.start.u,.string x.start.rn,iV x.start.ri,.slice h x.start.args.length f,L.lets.v,L.crops.v,L.reaches.v,L.farms.v,L.rots.v,L.rights.v,L.duties.v][j]?=some v->W.cell? (aV L.s j)=some v:=λj v o=>by simp only[World.cell?,hc];simpa using o
 refine ⟨⟨_,hc⟩,⟨p,cell 0 _ rfl⟩,?_,?_,?_,cell 19 _ rfl,cell 20 _ rfl,cell 21 _ rfl,cell 22 _ rfl,cell 23 _ rfl,cell 24 _ rfl,cell 25 _ rfl,?_,?_,?_,?_,k,?_,?_⟩
 ·exact DK hb 0 h0 (Af (cell 1 _ rfl) (Af (cell 2 _ rfl) (Af (cell 3 _ rfl) (Af (cell 4 _ rfl) (Af (cell 5 _ rfl) (Co (cell 6 _ rfl)))))))
 ·exact DK hb 0 h1 (Af (cell 7 _ rfl) (Af (cell 8 _ rfl) (Af (cell 9 _ rfl) (Af (cell 10 _ rfl) (Af (cell 11 _ rfl) (Co (cell 12 _ rfl)))))))
 ·exact DK hb 0 h2 (Af (cell 13 _ rfl) (Af (cell 14 _ rfl) (Af (cell 15 _ rfl) (Af (cell 16 _ rfl) (Af (cell 17 _ rfl) (Co (cell 18 _ rfl)))))))
 ·exact Ht q hs.lets hN (λi _ g cs _ hr a=>Ub hb i g _ cs _ hr a)
 ·exact Ht rc hs.crops hN (λi _ g cs _ hr a=>S8 hb i g _ cs _ hr a)
 ·exact Ht m hs.reaches hN (λi _ g cs _ hr a=>Q5 hb i g _ cs _ hr a)
 ·exact Ht l hs.farms hN (λi _ g cs _ hr a=>S9 hb i g _ cs _ hr a)
 ·exact Ht ri hs.rights hN (λi _ g cs _ hr a=>Q6 hb i g _ cs _ hr a)
 exact Ht r hs.duties hN (λi _ g cs _ hr a=>Sb hb i g _ cs _ hr a)
theorem Dk{α:Type}{f:Nat->α->α}(h:∀i a,f i a=a)(l:List α):l.mapIdx f=l:=by
 refine xZ (by simp) λi h1 h2=>?_
 rw[List.getElem_mapIdx];exact h _ _
theorem Zr(x:AM):x.mp (λ_ e=>e) (λ_ r=>r)=x:=by
 unfold AM.mp
 have h1:=Dk (f:=FR.mp λ_ e=>e) (λ_ _=>rfl) x.lets
 have h2:=Dk (f:=DH.mp λ_ e=>e) (λ_ _=>rfl) x.crops
 have h3:=Dk (f:=AS.mp (λ_ e=>e) λ_ r=>r) (λ_ _=>rfl) x.reaches
 have g:=Dk (f:=BG.mp (λ_ e=>e) λ_ r=>r) (λ_ _=>rfl) x.farms
 have a:=Dk (f:=Bq.mp (λ_ e=>e) λ_ r=>r) (λ_ d=>by
  unfold Bq.mp
  rw[Dk (f:=C6.mp (λ_ e=>e) λ_ r=>r) (λ_ _=>rfl) d.turns]) x.rots
 have c:=Dk (f:=Bj.mp (λ_ e=>e) λ_ r=>r) (λ_ _=>rfl) x.rights
 have b:=Dk (f:=CZ.mp (λ_ e=>e) λ_ r=>r) (λ_ _=>rfl) x.duties
 rw[h1,h2,h3,g,a,c,b]
section
variable{N:NP}{E E':Int->Ex->Nat->Nat->Prop}{R R':Int->Rf->Nat->Nat->Prop}{w w':World}{L:BQ}{x:AM}
theorem Cz.imp(h:Cz N E R w L x)(c:∀b t,(N b\/b=L.s)->Ty w b t->Ty w' b t)(d:∀b o,(N b\/b=L.s)->PZ w b o->w'.cell? ⟨b,o,none⟩=w.cell? ⟨b,o,none⟩)
 (a:∀lt e b o,(N b\/b=L.s)->Hr w b o->E lt e b o->E' lt e b o)(hr:∀to r b o,(N b\/b=L.s)->S0 w b o->R to r b o->R' to r b o):Cz N E' R' w' L x:=by
 have:=h.map (f:=λ_ e=>e) (g:=λ_ r=>r) c d a hr
 rwa [Zr] at this
theorem Ar{w w':World}{b o:Nat}(h:w'.heap[b]?=w.heap[b]?):w'.cell? ⟨b,o,none⟩=w.cell? ⟨b,o,none⟩:=by
 unfold World.cell?;rw[h]
theorem Hr.lt{b o:Nat}(h:Hr w b o):b < w.heap.size:=by obtain ⟨t,h,_⟩:=h;exact h.lt
theorem S0.lt{b o:Nat}(h:S0 w b o):b < w.heap.size:=by obtain ⟨t,h,_⟩:=h;exact h.lt
theorem PZ.lt{b o:Nat}(h:PZ w b o):b < w.heap.size:=by obtain ⟨t,h,_⟩:=h;exact h.lt
theorem Cz.up{M:NP}(h:Cz N (EV M w) (RV w) w L x)(hM:∀b,M b->b < w.heap.size)(hb:Below w.heap.size w w'):Cz N (EV M w') (RV w') w' L x:=by
 refine h.imp (λb t _ f=>f.same (hb.block b f.lt)) (λb o _ a=>Ar (hb.block b a.lt)) (λlt e b o _ a g=>?_) (λto r b o _ a hr=>?_)
 ·obtain ⟨c,h1,h2⟩:=g
  exact ⟨c,A8 h1 (hb.block b a.lt),h2.same (λ_ h=>h) (λb d=>hb.block b (hM b d))⟩
 exact ⟨hr.1,(Ar (hb.block b a.lt)).trans hr.2.1,(Ar (hb.block b a.lt)).trans hr.2.2⟩
end
theorem B9.split{α β:Type}{R:α->β->Prop}:∀ {l:List α} {m:List β} {l':List α} {a:List β},l.length=m.length->B9 R (l++l') (m++a)->B9 R l m/\B9 R l' a
 |[],[],_,_,_,h=>⟨trivial,h⟩
 |_::_,_::_,_,_,hl,h=>by
  obtain ⟨h1,h2⟩:=B9.split (by simpa using hl) h.2
  exact ⟨⟨h.1,h1⟩,h2⟩
 |[],_::_,_,_,hl,_=>by simp at hl
 |_::_,[],_,_,hl,_=>by simp at hl
theorem Jv{α β γ:Type}{R:α->β->Prop}(f:Nat->List α)(g:Nat->γ->List β):∀(l:List γ) (k:Nat),(∀i (h:i < l.length),(f (k+i)).length=(g (k+i) l[i]).length)->
  B9 R ((List.range' k l.length).flatMap f) ((l.zipIdx k).flatMap λp=>g p.2 p.1)->∀i (h:i < l.length),B9 R (f (k+i)) (g (k+i) l[i])
 |[],_,_,_,i,h=>by simp at h
 |x::r,k,hl,hA,i,h=>by
  rw[yr,List.range'_succ,yY,List.zipIdx_cons,yY] at hA
  obtain ⟨h1,h2⟩:=B9.split (hl 0 (by simp)) hA
  cases i with
  |zero=>exact h1
  |succ i=>
   have:=Jv f g r (k+1) (λi hi=>by have:=hl (i+1) (by simpa using hi);rw[show k+1+i=k+(i+1) by omega];simpa using this) h2 i (by simpa using h)
   rw[show k+1+i=k+(i+1) by omega] at this
   simpa using this
theorem Cg{α β γ:Type}{R:α->β->Prop}(f:Nat->List α)(g:Nat->γ->List β)(l:List γ)(n:Nat)(b:n=l.length)(c:∀i (h:i < l.length),(f i).length=(g i l[i]).length)(a:B9 R ((List.range n).flatMap f) (l.zipIdx.flatMap λp=>g p.2 p.1)):∀i (h:i < l.length),B9 R (f i) (g i l[i]):=by
 subst b
 rw[List.range_eq_range'] at a
 intro i h
 have:=Jv f g l 0 (λi hi=>by rw[yy];exact c i hi) a i h
 rwa [yy] at this
theorem FX{α β γ:Type}(f:Nat->List α)(g:Nat->γ->List β)(l:List γ)(n:Nat)(c:n=l.length)(d:∀i (h:i < l.length),(f i).length=(g i l[i]).length):((List.range n).flatMap f).length=(l.zipIdx.flatMap λp=>g p.2 p.1).length:=
 B9.length (R:=λ_ _=>True) (BD f g l n c (λi h=>by
  have:∀(a:List α) (b:List β),a.length=b.length->B9 (λ_ _=>True) a b:=by
   intro a
   induction a with
   |nil=>intro b hb;cases b with
    |nil=>trivial
    |cons=>simp at hb
   |cons x r ih=>intro b hb;cases b with
    |nil=>simp at hb
    |cons y s=>exact ⟨trivial,ih s (by simpa using hb)⟩
  exact this _ _ (d i h)))
def VH(E:Int->Ex->Nat->Nat->Prop)(a:Array Value)(e:M3):Prop:=∃b o,a=#[.pointer (some ⟨b,o,none⟩),.int .i64 e.2]/\E e.2 e.1 b o
section
variable{N:NP}{E E':Int->Ex->Nat->Nat->Prop}{R:Int->Rf->Nat->Nat->Prop}{w:World}
theorem C9{h:AA}{g sz i c:Nat}{e:Ex}{lt:Int}(hg:h.a=some ⟨g,0,none⟩)(d:VH E' #[h.ptr sz i c,.int .i64 lt] (e,lt)):E' lt e g (i*sz+c):=by
 obtain ⟨b,o,h1,h2⟩:=d
 unfold AA.ptr at h1
 rw[Bo hg,yy] at h1
 simp only[qO,zZ,qr,zs,qT,qp] at h1
 obtain ⟨rfl,rfl⟩:=h1
 exact h2
theorem Mk{s a b o:Nat}{lt:Int}{e:Ex}(h1:(#[.pointer (some ⟨s,a,none⟩),.int .i64 lt]:Array Value)=#[.pointer (some ⟨b,o,none⟩),.int .i64 lt])(h2:E' lt e b o):E' lt e s a:=by
 simp only[qO,zZ,qr,zs,qT,qp] at h1
 obtain ⟨rfl,rfl⟩:=h1
 exact h2
theorem Cz.told{L:BQ}{x:AM}(h:Cz N E R w L x)(b:B9 (VH E') (Cd L) (Ba x)):Cz N E' R w L x:=by
 unfold Cd Ba at b
 obtain ⟨S,b⟩:=B9.split (l:=many (Au L.s)) (m:=[(x.season,(0:Int)),(x.cap,0),(x.start,0)]) rfl b
 obtain ⟨O,b⟩:=B9.split (FX _ (λi (d:FR)=> [(d.value,1+(i:Int))]) x.lets _ h.lets.1 (λ_ _=>rfl)) b
 obtain ⟨D,b⟩:=B9.split (FX _ (λi (d:DH)=> [(d.need,(0:Int))]) x.crops _ h.crops.1 (λ_ _=>rfl)) b
 obtain ⟨B,b⟩:=B9.split (FX _ (λi (d:AS)=> [(d.delay,(0:Int)),(d.cap,0),(d.bank,0),(d.siphon,0),(d.evap0,0),(d.evap1,0),(d.seep0,0),(d.seep1,0)]) x.reaches _ h.reaches.1 (λ_ _=>rfl)) b
 obtain ⟨K,b⟩:=B9.split (FX _ (λi (d:BG)=> [(d.area,(0:Int))]) x.farms _ h.farms.1 (λ_ _=>rfl)) b
 have o:∀i (hi:i < x.rots.length),(many (EU L.rots i)++C8 (Ac L i) (Ac L i).n).length=([(x.rots[i].flow,(0:Int)),(x.rots[i].frm,0),(x.rots[i].to,0)]++Fw x.rots[i].turns).length:=λi hi=>by
  obtain ⟨g,g1,g0,ty,_,_,_,_,_,_,_,f⟩:=h.rots.2.2 i hi
  rw[yn,yn]
  congr 1
  exact FX _ (λk (d:C6)=> [(d.len,(0:Int))]) x.rots[i].turns _ f.1 (λ_ _=>rfl)
 obtain ⟨v,b⟩:=B9.split (FX _ (λi (d:Bq)=> [(d.flow,(0:Int)),(d.frm,0),(d.to,0)]++Fw d.turns) x.rots _ h.rots.1 o) b
 obtain ⟨A,y⟩:=B9.split (FX _ (λi (d:Bj)=> [(d.flow,(0:Int)),(d.frm,0),(d.to,0),(d.every,0),(d.len,0)]) x.rights _ h.rights.1 (λ_ _=>rfl)) b
 have B1:=Cg _ (λi (d:FR)=> [(d.value,1+(i:Int))]) x.lets _ h.lets.1 (λ_ _=>rfl) O
 have I:=Cg _ (λi (d:DH)=> [(d.need,(0:Int))]) x.crops _ h.crops.1 (λ_ _=>rfl) D
 have B3:=Cg _ (λi (d:AS)=> [(d.delay,(0:Int)),(d.cap,0),(d.bank,0),(d.siphon,0),(d.evap0,0),(d.evap1,0),(d.seep0,0),(d.seep1,0)]) x.reaches _ h.reaches.1 (λ_ _=>rfl) B
 have B4:=Cg _ (λi (d:BG)=> [(d.area,(0:Int))]) x.farms _ h.farms.1 (λ_ _=>rfl) K
 have B5:=Cg _ (λi (d:Bq)=> [(d.flow,(0:Int)),(d.frm,0),(d.to,0)]++Fw d.turns) x.rots _ h.rots.1 o v
 have H:=Cg _ (λi (d:Bj)=> [(d.flow,(0:Int)),(d.frm,0),(d.to,0),(d.every,0),(d.len,0)]) x.rights _ h.rights.1 (λ_ _=>rfl) A
 have M:=Cg _ (λi (d:CZ)=> [(d.due,(0:Int))]) x.duties _ h.duties.1 (λ_ _=>rfl) y
 obtain ⟨⟨T,U,z,s0⟩,⟨b1,o1,t1,s1⟩,⟨b2,o2,t2,G⟩,_⟩:=S
 refine ⟨h.ty,h.name,Mk z s0,Mk t1 s1,Mk t2 G,h.hlets,h.hcrops,h.hreaches,h.hfarms,h.hrots,h.hrights,h.hduties,⟨h.lets.1,h.lets.2.1,λi hi=>?_⟩,⟨h.crops.1,h.crops.2.1,λi hi=>?_⟩,⟨h.reaches.1,h.reaches.2.1,λi hi=>?_⟩,⟨h.farms.1,h.farms.2.1,λi hi=>?_⟩,⟨h.rots.1,h.rots.2.1,λi hi=>?_⟩,⟨h.rights.1,h.rights.2.1,λi hi=>?_⟩,⟨h.duties.1,h.duties.2.1,λi hi=>?_⟩⟩
 ·obtain ⟨g,g1,g0,ty,a,_⟩:=h.lets.2.2 i hi
  exact ⟨g,g1,g0,ty,a,C9 g1 (B1 i hi).1⟩
 ·obtain ⟨g,g1,g0,ty,a,_⟩:=h.crops.2.2 i hi
  exact ⟨g,g1,g0,ty,a,C9 g1 (I i hi).1⟩
 ·obtain ⟨g,g1,g0,ty,a,c,_⟩:=h.reaches.2.2 i hi
  obtain ⟨e,p,j,u,t,P,J,F,_⟩:=B3 i hi
  exact ⟨g,g1,g0,ty,a,c,C9 g1 e,C9 g1 p,C9 g1 j,C9 g1 u,C9 g1 t,C9 g1 P,C9 g1 J,C9 g1 F⟩
 ·obtain ⟨g,g1,g0,ty,a,c,g4,_,q⟩:=h.farms.2.2 i hi
  exact ⟨g,g1,g0,ty,a,c,g4,C9 g1 (B4 i hi).1,q⟩
 ·obtain ⟨g,g1,g0,ty,a,c,g4,_,_,_,q,f⟩:=h.rots.2.2 i hi
  obtain ⟨e,r⟩:=B9.split (l:=many (EU L.rots i)) (m:=[(x.rots[i].flow,(0:Int)),(x.rots[i].frm,0),(x.rots[i].to,0)]) rfl (B5 i hi)
  obtain ⟨e,p,j,_⟩:=e
  have C:=Cg _ (λk (d:C6)=> [(d.len,(0:Int))]) x.rots[i].turns _ f.1 (λ_ _=>rfl) r
  refine ⟨g,g1,g0,ty,a,c,g4,C9 g1 e,C9 g1 p,C9 g1 j,q,f.1,f.2.1,λk r=>?_⟩
  obtain ⟨g,g1,g0,ty,a,_⟩:=f.2.2 k r
  exact ⟨g,g1,g0,ty,a,C9 g1 (C k r).1⟩
 ·obtain ⟨g,g1,g0,ty,a,c,g4,q,Q,_⟩:=h.rights.2.2 i hi
  obtain ⟨e,p,j,u,t,_⟩:=H i hi
  exact ⟨g,g1,g0,ty,a,c,g4,q,Q,C9 g1 e,C9 g1 p,C9 g1 j,C9 g1 u,C9 g1 t⟩
 obtain ⟨g,g1,g0,ty,a,c,g4,_⟩:=h.duties.2.2 i hi
 exact ⟨g,g1,g0,ty,a,c,g4,C9 g1 (M i hi).1⟩
end
def GP(L:BQ)(k b o:Nat)(lt:Int):Prop:=(Cd L)[k]?=some #[.pointer (some ⟨b,o,none⟩),.int .i64 lt]
structure Q7 (N:Nat->Prop) (W4:World) (L:BQ) (x:AM):Prop where
 epos:∀j b o lt,GP L j b o lt->Hr W4 b o
 old:∀b,N b->b < W4.heap.size/\∀j o lt,¬ GP L j b o lt
 val:∀j b o lt,GP L j b o lt->∀h:j < (Ba x).length,∃c,W4.rangeAt b o c/\Bm N W4 (Ba x)[j].1 c
structure Q8 (W4:World) (L:BQ) (x:AM) (k:Nat) (O:Nat->Prop) (W:World):Prop where
 os:W.os=W4.os
 tape:W.tape=W4.tape
 output:W.output=W4.output
 size:W4.heap.size<=W.heap.size
 own:∀b,O b->W4.heap.size<=b
 cells:∀b q,b < W4.heap.size->(∀j o lt,j < k->GP L j b o lt->q≠o+5)->W.cell? ⟨b,q,none⟩=W4.cell? ⟨b,q,none⟩
 ty:∀b t,Ty W4 b t->Ty W b t
 old:∀b,b < W4.heap.size->(∀j o lt,j < k->¬ GP L j b o lt)->W.heap[b]?=W4.heap[b]?
 done:∃M:Nat->Prop,(∀b,M b->¬ O b/\W4.heap.size<=b/\b < W.heap.size)/\∀j b o lt,j < k->GP L j b o lt->∀h:j < (Ba x).length,b < W4.heap.size/\∃a c,W.cell? ⟨b,o+5,none⟩=some (.slice a ((Ba x)[j].1).args.length c)/\Eg W M a 0 ((Ba x)[j].1).args
section
variable{N:NP}{W4 W w':World}{L:BQ}{x:AM}{k b o:Nat}{lt:Int}{O:NP}
theorem Q8.start(W4:World)(L:BQ)(x:AM):Q8 W4 L x 0 (λ_=>False) W4:=
 ⟨rfl,rfl,rfl,yi _,λ_ h=>h.elim,λ_ _ _ _=>rfl,λ_ _ h=>h,λ_ _ _=>rfl,λ_=>False,λ_ h=>h.elim,λj _ _ _ a=>by omega⟩
theorem Q8.stays:Cv (Q8 W4 L x):=by
 intro k O W B W' h v z s r m l
 have d:∀b,b < W4.heap.size->W'.heap[b]?=W.heap[b]?:=λb hb=>m b (λe=>by have:=h.own b e;omega) (yx hb h.size)
 obtain ⟨M,m1,y⟩:=h.done
 refine ⟨z.trans h.os,s.trans h.tape,r.trans h.output,yG h.size v,λb hb=>?_,λb q hb i=>(Ar (d b hb)).trans (h.cells b q hb i),λb t hb=>(h.ty b t hb).same (d b hb.lt),λb hb i=>(d b hb).trans (h.old b hb i),M,λb hb=>?_,λj b o lt w A u=>?_⟩
 ·rcases l b hb with h1|h1
  ·exact h.own b h1
  have:=h.size;omega
 ·obtain ⟨n1,n2,C⟩:=m1 b hb
  refine ⟨λe=>?_,n2,by omega⟩
  rcases l b e with h1|h1
  ·exact n1 h1
  omega
 obtain ⟨f,a,c,p,n⟩:=y j b o lt w A u
 exact ⟨f,a,c,(Ar (d b f)).trans p,n.same (λ_ h _=>h) (λc hc g=>m c (m1 c hc).1 g)⟩
theorem Q8.read(hc:Q7 N W4 L x)(h:Q8 W4 L x k O W)(t:GP L k b o lt)(J:k < (Ba x).length):
  ∃M:NP,(∀c,M c->N c\/(W4.heap.size<=c/\c < W.heap.size))/\∃cs,W.rangeAt b o cs/\Bm M W (Ba x)[k].1 cs:=by
 obtain ⟨c,c1,c2⟩:=hc.val k b o lt t J
 obtain ⟨a,cap,rfl,I,P,S⟩:=c2.cells
 obtain ⟨D,r1,r2,H,G,r5⟩:=BP c1
 have r:=(hc.epos k b o lt t).lt
 have hN:∀c,N c->W.heap[c]?=W4.heap[c]?:=λc s=>h.old c (hc.old c s).1 (λj o lt _=>(hc.old c s).2 j o lt)
 have d:∀i,i < 5->W.cell? (aV b (o+i))=W4.cell? (aV b (o+i)):=λi hi=>h.cells b _ r (λj w e _ f g=>by
  have:=(hc.epos k b o lt t).uniq (hc.epos j b w e f) (j:=i) (j':=5) (by omega) (by omega) g
  omega)
 obtain ⟨M,m1,Q⟩:=h.done
 by_cases m:∃j e,j < k/\GP L j b o e
 ·obtain ⟨j,e,B,f⟩:=m
  have p:j < (Ba x).length:=by omega
  obtain ⟨_,T,F,E,C⟩:=Q j b o e B f p
  obtain ⟨c',z,l⟩:=hc.val j b o e f p
  have y:c'=[iV (Ba x)[k].1.op,iV (Ba x)[k].1.n,iV (Ba x)[k].1.u,.string (Ba x)[k].1.rn,iV (Ba x)[k].1.ri,.slice a (Ba x)[k].1.args.length cap]:=by
   refine xZ (by rw[l.len];rfl) λq R v=>?_
   have h1:=z q _ (yk R)
   have h2:=c1 q _ (yk v)
   rw[h1] at h2
   exact yf h2
  subst y
  have g:(Ba x)[j].1=(Ba x)[k].1:=Td _ l c2
  rw[g] at E C
  refine ⟨λc=>N c\/M c,λc hc=>hc.imp id (λA=>(m1 c A).2),_,Af ((d 0 (by omega)).trans D) (Af ((d 1 (by omega)).trans r1) (Af ((d 2 (by omega)).trans r2) (Af ((d 3 (by omega)).trans H) (Af ((d 4 (by omega)).trans G) (Co E))))),Bm.mk' I P (C.rowV (λc A _=>.inr A))⟩
 have K:W.cell? (aV b (o+5))=W4.cell? (aV b (o+5)):=h.cells b _ r (λj w e B f g=>by
  have:=(hc.epos k b o lt t).uniq (hc.epos j b w e f) (j:=5) (j':=5) (by omega) (by omega) g
  obtain ⟨_,rfl⟩:=this
  exact m ⟨j,e,B,f⟩)
 exact ⟨N,λc hc=>.inl hc,_,Af ((d 0 (by omega)).trans D) (Af ((d 1 (by omega)).trans r1) (Af ((d 2 (by omega)).trans r2) (Af ((d 3 (by omega)).trans H) (Af ((d 4 (by omega)).trans G) (Co (K.trans r5)))))),c2.same (λ_ h=>h) hN⟩
theorem Q8.next(hc:Q7 N W4 L x)(h:Q8 W4 L x k O W)(r:GP L k b o lt)(Y:k < (Ba x).length)(B:∀b,O b->b < W.heap.size)(d:aH W b o (Ba x)[k].1.args w'):Q8 W4 L x (k+1) O w'/\B7 O W w':=by
 obtain ⟨s1,R,V,a,cap,X,U⟩:=d
 have J:=(hc.epos k b o lt r).lt
 have hz:=h.size
 have w:∀c,W4.heap.size<=c->c < W.heap.size->w'.heap[c]?=W.heap[c]?:=λc h1 h2=>s1.block c h2 (λe=>by cases e;omega)
 obtain ⟨M,m1,m2⟩:=h.done
 refine ⟨⟨s1.os.trans h.os,s1.tape.trans h.tape,s1.output.trans h.output,yG hz s1.size,h.own,λc q d m=>?_,λc t H=>?_,λc d m=>?_,λc=>M c\/(W.heap.size<=c/\c < w'.heap.size),λc l=>?_,λj p s n K f A=>?_⟩,s1.size,λc D=>w c (h.own c D) (B c D)⟩
 ·by_cases i:c=b
  ·subst i
   rw[R q (m k o lt (by omega) r),h.cells c q d (λj o lt K=>m j o lt (by omega))]
  rw[Kb s1 (by omega) i,h.cells c q d (λj o lt K=>m j o lt (by omega))]
 ·by_cases i:c=b
  ·subst i;exact V t (h.ty c t H)
  exact (h.ty c t H).same (s1.block c (h.ty c t H).lt (λe=>i (by cases e;rfl)))
 ·have i:c≠b:=λe=>m k o lt (by omega) (e▸r)
  rw[s1.block c (by omega) (λe=>i (by cases e;rfl)),h.old c d (λj o lt K=>m j o lt (by omega))]
 ·rcases l with l|l
  ·obtain ⟨n1,n2,n3⟩:=m1 c l
   exact ⟨n1,n2,by have:=s1.size;omega⟩
  exact ⟨λD=>by have:=B c D;omega,by omega,l.2⟩
 have C:Eg w' (λc=>M c\/(W.heap.size<=c/\c < w'.heap.size)) a 0 (Ba x)[k].1.args:=U.same (λc h1 h2=>.inr ⟨h1,h2⟩) (λ_ _ _=>rfl)
 by_cases g:p=b/\s=o
 ·obtain ⟨rfl,rfl⟩:=g
  obtain ⟨c,c1,c2⟩:=hc.val k p s lt r Y
  obtain ⟨c',G,y⟩:=hc.val j p s n f A
  have F:c'=c:=by
   refine xZ (by rw[y.len,c2.len]) λq m E=>?_
   have h1:=G q _ (yk m)
   have h2:=c1 q _ (yk E)
   rw[h1] at h2
   exact yf h2
  subst F
  have S:(Ba x)[j].1=(Ba x)[k].1:=Td _ y c2
  rw[S]
  exact ⟨J,a,cap,X,C⟩
 have I:j < k:=by
  rcases xp j k with P|P
  ·exact P
  exfalso
  obtain rfl:j=k:=by omega
  unfold GP at r f
  rw[r] at f
  simp only[zs,qO,zZ,qr,qT,qp] at f
  exact g ⟨f.1.1.symm,f.1.2.symm⟩
 obtain ⟨u,Z,z,Q,T⟩:=m2 j p s n I f A
 refine ⟨u,Z,z,?_,T.same (λc l _=>.inl l) (λc l d=>w c (m1 c l).2.1 d)⟩
 by_cases v:p=b
 ·subst v
  rw[R _ (λe=>g ⟨rfl,by omega⟩)];exact Q
 rw[Kb s1 (by have:=(hc.epos j p s n f).lt;omega) v];exact Q
end
section
variable{N:NP}{E:Int->Ex->Nat->Nat->Prop}{R:Int->Rf->Nat->Nat->Prop}{w W:World}{L:BQ}{x:AM}
theorem Cz.ok(h:Cz N E R w L x):L.Ok:=by
 refine ⟨h.lets.ok,h.crops.ok,h.reaches.ok,h.farms.ok,h.rots.ok,h.rights.ok,h.duties.ok,λi hi=>?_⟩
 obtain ⟨_,_,_,_,_,_,_,_,_,_,_,a⟩:=h.rots.2.2 i (by rw[<-h.rots.1];exact hi)
 exact a.ok
theorem Cz.heads(h:Cz N E R w L x){Bs:Nat}(d:∀b o,PZ w b o->W.cell? ⟨b,o,none⟩=w.cell? ⟨b,o,none⟩)(c:W.cell? ⟨Bs,0,none⟩=some (.pointer (some ⟨L.s,0,none⟩))):K3 L Bs W:=by
 have a:∀o,Gg 49 o=0->W.cell? (aV L.s o)=w.cell? (aV L.s o):=λo e=>d _ _ ⟨_,h.ty,e⟩
 refine ⟨c,(a _ rfl).trans h.hlets,(a _ rfl).trans h.hcrops,(a _ rfl).trans h.hreaches,(a _ rfl).trans h.hfarms,(a _ rfl).trans h.hrots,(a _ rfl).trans h.hrights,(a _ rfl).trans h.hduties,λi hi=>?_⟩
 obtain ⟨g,g1,_,ty,_,_,_,_,_,_,hc,_⟩:=h.rots.2.2 i (by rw[<-h.rots.1];exact hi)
 rw[Bo g1,yy]
 exact (d _ _ (Ec ty Gh i 22 rfl)).trans hc
theorem OV{cs:LV}(h:CQ N w L cs x):∀v∈cs,v.oneCell'=true:=by
 obtain ⟨c0,c1,c2,rfl,g0,g1,b⟩:=h.cells
 refine BJ rfl (AH (CS g0) (AH (CS g1) (AH (CS b) ?_)))
 intro v a
 simp at a
 rcases a with rfl|rfl|rfl|rfl|rfl|rfl|rfl<;>rfl
theorem J7(h:B9 (Zj N E w) (Cd L) (Ba x)){j b o:Nat}{lt:Int}(c:GP L j b o lt):N b/\Hr w b o/\∀k:j < (Ba x).length,E (Ba x)[j].2 (Ba x)[j].1 b o:=by
 unfold GP at c
 obtain ⟨d,e⟩:=yF.1 c
 have a:j < (Ba x).length:=by rw[<-h.length];exact d
 obtain ⟨g,i,h1,h2,h3,f⟩:=h.get j d a
 rw[e] at h1
 simp only[qO,zZ,qr,zs,qT,qp] at h1
 obtain ⟨⟨rfl,rfl⟩,_⟩:=h1
 exact ⟨h2,h3,λ_=>f⟩
theorem VI(h:B9 (Zj N E w) (Cd L) (Ba x)){j:Nat}(a:j < (Cd L).length):∃b o lt,GP L j b o lt:=by
 obtain ⟨b,o,h1,_⟩:=h.get j a (by rw[<-h.length];exact a)
 exact ⟨b,o,_,by unfold GP;rw[yk a,h1]⟩
theorem Xw{W4:World}{O:NP}{B:NP}{G:NP}(h:B9 (Zj N E W4) (Cd L) (Ba x))(hc:Q7 G W4 L x)(u:Q8 W4 L x (Cd L).length O W)(D:∀b,W4.heap.size<=b->¬ O b->B b):
  B9 (VH λ(_:Int) e b o=>∃c,W.rangeAt b o c/\Jl W B e c) (Cd L) (Ba x):=by
 have p:∀(l:List (Array Value)) (m:List M3),l.length=m.length->(∀i (h1:i < l.length) (h2:i < m.length),VH (λ(_:Int) e b o=>∃c,W.rangeAt b o c/\Jl W B e c) l[i] m[i])->B9 (VH λ(_:Int) e b o=>∃c,W.rangeAt b o c/\Jl W B e c) l m:=by
  intro l
  induction l with
  |nil=>intro m f _;cases m with
   |nil=>trivial
   |cons=>simp at f
  |cons a l ih=>intro m f s;cases m with
   |nil=>simp at f
   |cons e m=>exact ⟨s 0 (by simp) (by simp),ih m (by simpa using f) (λi h1 h2=>s (i+1) (by simpa using h1) (by simpa using h2))⟩
 refine p _ _ h.length λi h1 h2=>?_
 obtain ⟨b,o,v,Q,S,P⟩:=h.get i h1 h2
 have r:GP L i b o (Ba x)[i].2:=by unfold GP;rw[yk h1,v]
 obtain ⟨M,m1,I⟩:=u.done
 obtain ⟨k,a,cap,C,z⟩:=I i b o _ h1 r h2
 obtain ⟨c,c1,c2⟩:=hc.val i b o _ r h2
 obtain ⟨a0,t,rfl,F,H,R⟩:=c2.cells
 obtain ⟨A,r1,r2,K,J,r5⟩:=BP c1
 have d:∀q,q < 5->W.cell? (aV b (o+q))=W4.cell? (aV b (o+q)):=λq T=>u.cells b _ k (λj y n _ g w=>by
  have:=(hc.epos i b o _ r).uniq (hc.epos j b y n g) (j:=q) (j':=5) (by omega) (by omega) w
  omega)
 exact ⟨b,o,v,_,Af ((d 0 (by omega)).trans A) (Af ((d 1 (by omega)).trans r1) (Af ((d 2 (by omega)).trans r2) (Af ((d 3 (by omega)).trans K) (Af ((d 4 (by omega)).trans J) (Co C))))),Jl.mk' F H (z.same (λb hb _=>D b (m1 b hb).2.1 (m1 b hb).1) (λ_ _ _=>rfl))⟩
theorem J8{d:NP}{W4:World}{k:Nat}{O:NP}(hc:Q7 d W4 L x)(e:Q8 W4 L x k O W){b q:Nat}{t:Nat}(ty:Ty W4 b t)(a:Gg t q≠1):W.cell? ⟨b,q,none⟩=W4.cell? ⟨b,q,none⟩:=
 e.cells b q ty.lt (λj o lt _ f c=>by
  obtain ⟨g,h1,h2⟩:=hc.epos j b o lt f
  obtain rfl:=ty.inj h1
  exact a (by rw[c];exact (h2 5 (by omega)).1))
end
end Go.Proofs.YtbdfinegbjdblaaGreatDoor
namespace Go.Proofs.YtbdfinegbjdblaaGreatDoor
open Go.RowKit Tryz
attribute [local go_sem] Oper.semAt_some
def ET(B:NP)(w:World)(_:Int)(e:Ex)(b o:Nat):Prop:=∃c,w.rangeAt b o c/\Jl w B e c
theorem OX{fn:Func}{t:Tmp}{ty:TypeId}{tmps:Array Value}{P:Program}{w:World}{p:Addr}{v:Value}(h:fn.results=#[.cell t ty])(a:tmps.getD t undef=.pointer (some p))(b:(loadVar ty p).run P w=.ok v w):(results fn tmps).run P w=.ok v w:=by
 rw[yI] at a
 simp[results,h,a,asAddr,b]
def Og(w:World)(x:AM)(e:Ending)(w':World):Prop:=
 ∃(L:BQ) (cs:LV),e=.returned (.agg cs.toArray)/\cs.length=26/\(∀v∈cs,v.oneCell'=true)/\Below w.heap.size w w'/\L.s=w.heap.size/\w'.rangeAt L.s 0 cs/\Cz (λg=>w.heap.size<=g/\g≠w.heap.size+1) (ET (λg=>w.heap.size+2<=g) w') (RV w') w' L x
theorem Ml(W:World)(r:Option Nat):W.grownBy W r:=⟨rfl,rfl,rfl,yi _,λ_ _ _=>rfl⟩
theorem Mm{W V:World}{r:Option Nat}(h:W.grownBy V r):W.grownBy V.drew r:=⟨h.os,h.tape,h.output,h.size,h.block⟩
theorem Bv{W V U:World}{r:Option Nat}(h:W.grownBy V r)(k:V.grownBy U r):W.grownBy U r:=
 ⟨k.os.trans h.os,k.tape.trans h.tape,k.output.trans h.output,yG h.size k.size,λb hb a=>(k.block b (yx hb h.size) a).trans (h.block b hb a)⟩
theorem Ch{V U:World}{r:Option Nat}(h:Below V.heap.size V U):V.grownBy U r:=⟨h.os,h.tape,h.output,h.size,λb hb _=>h.block b hb⟩
def Oh{α:Type}:List α->Option Addr->Option Nat
 |[],_=>none
 |_::_,a=>a.map (·.block)
theorem FY{α:Type}{l:List α}{i g:Nat}(h:i < l.length):Oh l (some ⟨g,0,none⟩)=some g:=by
 cases l with
 |nil=>simp at h
 |cons x r=>rfl
structure Zs (U:World) (a:Option Addr) (N:Nat->Prop) (w:World) (l:List Bq) (hs:List AA) (wr:World):Prop where
 grown:U.grownBy wr (Oh l a)
 len:hs.length<=l.length
 ty:∀g,a=some ⟨g,0,none⟩->∀t,Ty U g t->Ty wr g t
 cells:∀g,a=some ⟨g,0,none⟩->∀q,(∀j,j < hs.length->q≠j*23+22)->wr.cell? ⟨g,q,none⟩=U.cell? ⟨g,q,none⟩
 done:∀j (_:j < hs.length) (_:j < l.length),Iq U.heap.size wr 65 8 (IA N w) hs[j] l[j].turns/\∀g,a=some ⟨g,0,none⟩->wr.cell? ⟨g,j*23+22,none⟩=some hs[j].v
theorem Oi{α:Type}{l:List α}{a:Option Addr}{b:Nat}(h:some b=Oh l a):0 < l.length:=by
 cases l with
 |nil=>cases h
 |cons x r=>simp
theorem Zs.next{U:World}{a:Option Addr}{N:NP}{w:World}{l:List Bq}{hs:List AA}{wr V x:World}{g:Nat}{o:AA}{u:Value}(i:Zs U a N w l hs wr)(hi:hs.length < l.length)(h:a=some ⟨g,0,none⟩)(hg:g < U.heap.size)(hb:Below wr.heap.size wr V)
 (hc:V.cell? ⟨g,hs.length*23+22,none⟩=some u)(hr:Iq wr.heap.size V 65 8 (IA N w) o l[hs.length].turns)(E:x=V.setCell ⟨g,hs.length*23+22,none⟩ o.v):Zs U a N w l (hs++[o]) x:=by
 obtain ⟨s1,r,y,A⟩:=As o.v hc
 rw[<-E] at s1 r y A
 have I:=i.grown.size
 have J:=hb.size
 have k:V.heap[g]?=wr.heap[g]?:=hb.block g (by omega)
 have f:∀q,V.cell? (aV g q)=wr.cell? (aV g q):=λq=>by unfold World.cell?;rw[k]
 have m:Oh l a=some g:=by rw[h];exact FY hi
 refine ⟨?_,by simp;omega,λp c t G=>?_,λp c q C=>?_,λj B H=>?_⟩
 ·rw[m]
  have h0:=i.grown
  rw[m] at h0
  exact Bv (Bv h0 (Ch hb)) s1
 ·rw[h] at c;cases c
  exact y t ((i.ty g h t G).same k)
 ·rw[h] at c;cases c
  rw[r q (C hs.length (by simp)),f,i.cells g h q (λj B=>C j (by simp;omega))]
 by_cases s:j=hs.length
 ·subst s
  rw[qj (yi _)]
  simp only[Nat.sub_self,qA]
  exact ⟨Iq.of (hr.up (λb z d=>s1.block b d (λe=>by cases e;omega))).1 I (hr.up (λb z d=>s1.block b d (λe=>by cases e;omega))).2,λp c=>by rw[h] at c;cases c;exact A⟩
 have n:j < hs.length:=by simp at B;omega
 rw[qo n]
 obtain ⟨F,D⟩:=i.done j n H
 refine ⟨F.up (λb z d=>(s1.block b (by omega) (λe=>by cases e;omega)).trans (hb.block b d)),λp c=>?_⟩
 rw[h] at c;cases c
 rw[r _ (by omega),f,D g h]
theorem VJ{N:NP}{w:World}{t:AA}{cs:LV}{d:Bq}(h:Ip N w t cs d):Bg N w 8 (IA N w) t d.turns:=by
 obtain ⟨_,_,_,_,_,_,_,_,_,h⟩:=h
 exact h
theorem VK{N:NP}{w:World}{L:BQ}(cs:LV)(d:Bq × Nat)(h:Ip N w (Ac L d.2) cs d.1):∀v∈cs,v.oneCell'=true:=M9 h
theorem VL{N:NP}{w W:World}{L:BQ}{l:List Bq}(h:L.rots.n=l.length/\l.length<=140737488355328/\∀i (hi:i < l.length),∃b o cs,L.rots.a=some ⟨b,o,none⟩/\N b/\cs.length=23/\w.rangeAt b (o+i*23) cs/\Ip N w (Ac L i) cs l[i])(hb:∀b,N b->W.heap[b]?=w.heap[b]?):
  Bg N W 23 (λcs (d:Bq × Nat)=>Ip N w (Ac L d.2) cs d.1) L.rots l.zipIdx:=by
 obtain ⟨h1,h2,h3⟩:=h
 refine ⟨by rw[zW];exact h1,by rw[zW];exact h2,λi hi=>?_⟩
 rw[zW] at hi
 obtain ⟨b,o,cs,g1,c,e,g4,f⟩:=h3 i hi
 refine ⟨b,o,cs,g1,c,e,A8 g4 (hb b c),?_⟩
 rw[qM]
 simpa using f
theorem Se{N:NP}{w:World}{L:BQ}{cs:LV}{x:AM}(h:CQ N w L cs x)(hN:∀b,N b->b < w.heap.size)(fv:Nt x):
  Calls prog 96 #[.agg cs.toArray] w (Og w x):=by
 obtain ⟨c0,c1,c2,rfl,g0,g1,g2⟩:=h.cells
 obtain ⟨a0,p0,rfl,e0⟩:=g0.cells
 obtain ⟨a1,p1,rfl,e1⟩:=g1.cells
 obtain ⟨a2,p2,rfl,e2⟩:=g2.cells
 have HV:=yb h
 have HN:=yb hN
 have b0:=yb fv
 have gn:=yb g0;have hm:=yb g1;have h8:=yb g2
 clear h hN fv g0 g1 g2 e0 e1 e2
 unfold AA.v
 simp only[yQ,yS]
 refine Bt (n:=10) func96 rfl ?_
 simp only[ntmps96,yA,yr,yK,Nat.reduceAdd,Nat.reduceSub,zw,zx,zG,zD,yS,yQ]
 refine Aj (Aa ?_)
 go_wp2
 have fz:Below w.heap.size w ((w.alloc (.cells #[.string x.name,iV x.season.op,iV x.season.n,iV x.season.u,.string x.season.rn,iV x.season.ri,.slice a0 x.season.args.length p0,iV x.cap.op,iV x.cap.n,iV x.cap.u,.string x.cap.rn,iV x.cap.ri,.slice a1 x.cap.args.length p1,iV x.start.op,iV x.start.n,iV x.start.u,.string x.start.rn,iV x.start.ri,.slice a2 x.start.args.length p2,.slice L.lets.a L.lets.n L.lets.c,.slice L.crops.a L.crops.n L.crops.c,.slice L.reaches.a L.reaches.n L.reaches.c,.slice L.farms.a L.farms.n L.farms.c,.slice L.rots.a L.rots.n L.rots.c,.slice L.rights.a L.rights.n L.rights.c,.slice L.duties.a L.duties.n L.duties.c] 49)).alloc (.cells #[.string ⟨#[]⟩,iV 0,iV 0,iV 0,.string ⟨#[]⟩,iV 0,.slice none 0 0,iV 0,iV 0,iV 0,.string ⟨#[]⟩,iV 0,.slice none 0 0,iV 0,iV 0,iV 0,.string ⟨#[]⟩,iV 0,.slice none 0 0,.slice none 0 0,.slice none 0 0,.slice none 0 0,.slice none 0 0,.slice none 0 0,.slice none 0 0,.slice none 0 0] 49)):=((yg _ _).alloc (yi _) _).alloc (by simp) _
 have fx:((w.alloc (.cells #[.string x.name,iV x.season.op,iV x.season.n,iV x.season.u,.string x.season.rn,iV x.season.ri,.slice a0 x.season.args.length p0,iV x.cap.op,iV x.cap.n,iV x.cap.u,.string x.cap.rn,iV x.cap.ri,.slice a1 x.cap.args.length p1,iV x.start.op,iV x.start.n,iV x.start.u,.string x.start.rn,iV x.start.ri,.slice a2 x.start.args.length p2,.slice L.lets.a L.lets.n L.lets.c,.slice L.crops.a L.crops.n L.crops.c,.slice L.reaches.a L.reaches.n L.reaches.c,.slice L.farms.a L.farms.n L.farms.c,.slice L.rots.a L.rots.n L.rots.c,.slice L.rights.a L.rights.n L.rights.c,.slice L.duties.a L.duties.n L.duties.c] 49)).alloc (.cells #[.string ⟨#[]⟩,iV 0,iV 0,iV 0,.string ⟨#[]⟩,iV 0,.slice none 0 0,iV 0,iV 0,iV 0,.string ⟨#[]⟩,iV 0,.slice none 0 0,iV 0,iV 0,iV 0,.string ⟨#[]⟩,iV 0,.slice none 0 0,.slice none 0 0,.slice none 0 0,.slice none 0 0,.slice none 0 0,.slice none 0 0,.slice none 0 0,.slice none 0 0] 49)).heap[w.heap.size]?=some (.cells #[.string x.name,iV x.season.op,iV x.season.n,iV x.season.u,.string x.season.rn,iV x.season.ri,.slice a0 x.season.args.length p0,iV x.cap.op,iV x.cap.n,iV x.cap.u,.string x.cap.rn,iV x.cap.ri,.slice a1 x.cap.args.length p1,iV x.start.op,iV x.start.n,iV x.start.u,.string x.start.rn,iV x.start.ri,.slice a2 x.start.args.length p2,.slice L.lets.a L.lets.n L.lets.c,.slice L.crops.a L.crops.n L.crops.c,.slice L.reaches.a L.reaches.n L.reaches.c,.slice L.farms.a L.farms.n L.farms.c,.slice L.rots.a L.rots.n L.rots.c,.slice L.rights.a L.rights.n L.rights.c,.slice L.duties.a L.duties.n L.duties.c] 49 (0,0)):=(yp _ _ _ (by simp)).trans (World.alloc_heap_new w _)
 have gh:((w.alloc (.cells #[.string x.name,iV x.season.op,iV x.season.n,iV x.season.u,.string x.season.rn,iV x.season.ri,.slice a0 x.season.args.length p0,iV x.cap.op,iV x.cap.n,iV x.cap.u,.string x.cap.rn,iV x.cap.ri,.slice a1 x.cap.args.length p1,iV x.start.op,iV x.start.n,iV x.start.u,.string x.start.rn,iV x.start.ri,.slice a2 x.start.args.length p2,.slice L.lets.a L.lets.n L.lets.c,.slice L.crops.a L.crops.n L.crops.c,.slice L.reaches.a L.reaches.n L.reaches.c,.slice L.farms.a L.farms.n L.farms.c,.slice L.rots.a L.rots.n L.rots.c,.slice L.rights.a L.rights.n L.rights.c,.slice L.duties.a L.duties.n L.duties.c] 49)).alloc (.cells #[.string ⟨#[]⟩,iV 0,iV 0,iV 0,.string ⟨#[]⟩,iV 0,.slice none 0 0,iV 0,iV 0,iV 0,.string ⟨#[]⟩,iV 0,.slice none 0 0,iV 0,iV 0,iV 0,.string ⟨#[]⟩,iV 0,.slice none 0 0,.slice none 0 0,.slice none 0 0,.slice none 0 0,.slice none 0 0,.slice none 0 0,.slice none 0 0,.slice none 0 0] 49)).heap[w.heap.size+1]?=some (.cells #[.string ⟨#[]⟩,iV 0,iV 0,iV 0,.string ⟨#[]⟩,iV 0,.slice none 0 0,iV 0,iV 0,iV 0,.string ⟨#[]⟩,iV 0,.slice none 0 0,iV 0,iV 0,iV 0,.string ⟨#[]⟩,iV 0,.slice none 0 0,.slice none 0 0,.slice none 0 0,.slice none 0 0,.slice none 0 0,.slice none 0 0,.slice none 0 0,.slice none 0 0] 49 (0,0)):=by
  have:=World.alloc_heap_new (w.alloc (.cells #[.string x.name,iV x.season.op,iV x.season.n,iV x.season.u,.string x.season.rn,iV x.season.ri,.slice a0 x.season.args.length p0,iV x.cap.op,iV x.cap.n,iV x.cap.u,.string x.cap.rn,iV x.cap.ri,.slice a1 x.cap.args.length p1,iV x.start.op,iV x.start.n,iV x.start.u,.string x.start.rn,iV x.start.ri,.slice a2 x.start.args.length p2,.slice L.lets.a L.lets.n L.lets.c,.slice L.crops.a L.crops.n L.crops.c,.slice L.reaches.a L.reaches.n L.reaches.c,.slice L.farms.a L.farms.n L.farms.c,.slice L.rots.a L.rots.n L.rots.c,.slice L.rights.a L.rights.n L.rights.c,.slice L.duties.a L.duties.n L.duties.c] 49)) (.cells #[.string ⟨#[]⟩,iV 0,iV 0,iV 0,.string ⟨#[]⟩,iV 0,.slice none 0 0,iV 0,iV 0,iV 0,.string ⟨#[]⟩,iV 0,.slice none 0 0,iV 0,iV 0,iV 0,.string ⟨#[]⟩,iV 0,.slice none 0 0,.slice none 0 0,.slice none 0 0,.slice none 0 0,.slice none 0 0,.slice none 0 0,.slice none 0 0,.slice none 0 0] 49)
  rwa [ze] at this
 have g7:((w.alloc (.cells #[.string x.name,iV x.season.op,iV x.season.n,iV x.season.u,.string x.season.rn,iV x.season.ri,.slice a0 x.season.args.length p0,iV x.cap.op,iV x.cap.n,iV x.cap.u,.string x.cap.rn,iV x.cap.ri,.slice a1 x.cap.args.length p1,iV x.start.op,iV x.start.n,iV x.start.u,.string x.start.rn,iV x.start.ri,.slice a2 x.start.args.length p2,.slice L.lets.a L.lets.n L.lets.c,.slice L.crops.a L.crops.n L.crops.c,.slice L.reaches.a L.reaches.n L.reaches.c,.slice L.farms.a L.farms.n L.farms.c,.slice L.rots.a L.rots.n L.rots.c,.slice L.rights.a L.rights.n L.rights.c,.slice L.duties.a L.duties.n L.duties.c] 49)).alloc (.cells #[.string ⟨#[]⟩,iV 0,iV 0,iV 0,.string ⟨#[]⟩,iV 0,.slice none 0 0,iV 0,iV 0,iV 0,.string ⟨#[]⟩,iV 0,.slice none 0 0,iV 0,iV 0,iV 0,.string ⟨#[]⟩,iV 0,.slice none 0 0,.slice none 0 0,.slice none 0 0,.slice none 0 0,.slice none 0 0,.slice none 0 0,.slice none 0 0,.slice none 0 0] 49)).heap.size=w.heap.size+2:=by simp
 generalize (w.alloc (.cells #[.string x.name,iV x.season.op,iV x.season.n,iV x.season.u,.string x.season.rn,iV x.season.ri,.slice a0 x.season.args.length p0,iV x.cap.op,iV x.cap.n,iV x.cap.u,.string x.cap.rn,iV x.cap.ri,.slice a1 x.cap.args.length p1,iV x.start.op,iV x.start.n,iV x.start.u,.string x.start.rn,iV x.start.ri,.slice a2 x.start.args.length p2,.slice L.lets.a L.lets.n L.lets.c,.slice L.crops.a L.crops.n L.crops.c,.slice L.reaches.a L.reaches.n L.reaches.c,.slice L.farms.a L.farms.n L.farms.c,.slice L.rots.a L.rots.n L.rots.c,.slice L.rights.a L.rights.n L.rights.c,.slice L.duties.a L.duties.n L.duties.c] 49)).alloc (.cells #[.string ⟨#[]⟩,iV 0,iV 0,iV 0,.string ⟨#[]⟩,iV 0,.slice none 0 0,iV 0,iV 0,iV 0,.string ⟨#[]⟩,iV 0,.slice none 0 0,iV 0,iV 0,iV 0,.string ⟨#[]⟩,iV 0,.slice none 0 0,.slice none 0 0,.slice none 0 0,.slice none 0 0,.slice none 0 0,.slice none 0 0,.slice none 0 0,.slice none 0 0] 49)=W1 at*
 have cr:=yb fz;have hx:=yb fx;have hh:=yb gh;have aa:=yb g7
 clear fz fx gh g7
 have bp:Hid (∀W,W1.grownBy W (some w.heap.size)->∀b,N b->W.heap[b]?=w.heap[b]?):=yb (λW hW b hb=>(hW.block b (by have:=HN.o b hb;have:=aa.o;omega) (λe=>by cases e;have:=HN.o _ hb;omega)).trans (cr.o.block b (HN.o b hb)))
 have bm:Hid (∀W,W1.grownBy W (some w.heap.size)->∀b,N b->b < W.heap.size):=yb (λW hW b hb=>by have:=HN.o b hb;have:=aa.o;have:=hW.size;omega)
 have gj:Hid (W1.grownBy W1 (some w.heap.size)):=yb (Ml _ _)
 refine Aj (Aa ?_)
 refine wp_region_noPanic ?_
 have gk:W1.drew.heap[w.heap.size]?=some (.cells #[.string x.name,iV x.season.op,iV x.season.n,iV x.season.u,.string x.season.rn,iV x.season.ri,.slice a0 x.season.args.length p0,iV x.cap.op,iV x.cap.n,iV x.cap.u,.string x.cap.rn,iV x.cap.ri,.slice a1 x.cap.args.length p1,iV x.start.op,iV x.start.n,iV x.start.u,.string x.start.rn,iV x.start.ri,.slice a2 x.start.args.length p2,.slice L.lets.a L.lets.n L.lets.c,.slice L.crops.a L.crops.n L.crops.c,.slice L.reaches.a L.reaches.n L.reaches.c,.slice L.farms.a L.farms.n L.farms.c,.slice L.rots.a L.rots.n L.rots.c,.slice L.rights.a L.rights.n L.rights.c,.slice L.duties.a L.duties.n L.duties.c] 49 (0,0)):=hx.o
 have bt:=yb gk
 clear gk
 refine Dl (by kernel_rfl) (λW=>W.heap[w.heap.size]?=some (.cells #[.string x.name,iV x.season.op,iV x.season.n,iV x.season.u,.string x.season.rn,iV x.season.ri,.slice a0 x.season.args.length p0,iV x.cap.op,iV x.cap.n,iV x.cap.u,.string x.cap.rn,iV x.cap.ri,.slice a1 x.cap.args.length p1,iV x.start.op,iV x.start.n,iV x.start.u,.string x.start.rn,iV x.start.ri,.slice a2 x.start.args.length p2,.slice L.lets.a L.lets.n L.lets.c,.slice L.crops.a L.crops.n L.crops.c,.slice L.reaches.a L.reaches.n L.reaches.c,.slice L.farms.a L.farms.n L.farms.c,.slice L.rots.a L.rots.n L.rots.c,.slice L.rights.a L.rights.n L.rights.c,.slice L.duties.a L.duties.n L.duties.c] 49 (0,0))) 13 ?_
 refine Az (i:=0) (v:=pV w.heap.size 19) rfl (by kernel_rfl) (by kernel_rfl) (by kernel_rfl) (λ_ _ _ h=>h) (by kernel_rfl) (Or.inl ⟨by rfl,?_⟩) (λ_=>bt.o) ?_
 ·intro w _;go_simp
 refine BR (i:=1) (v:=.slice L.lets.a L.lets.n L.lets.c) rfl (by kernel_rfl) (by kernel_rfl) (by kernel_rfl) (λ_ _ _ h=>h) (by kernel_rfl) (Or.inl ⟨by rfl,?_⟩) bt.o ?_
 ·intro W hW
  have hc:W.cell? (aV w.heap.size 19)=some (.slice L.lets.a L.lets.n L.lets.c):=by simp only[World.cell?,hW];rfl
  clear hW
  go_simp
 refine Az (i:=3) (v:=pV w.heap.size 20) rfl (by kernel_rfl) (by kernel_rfl) (by kernel_rfl) (λ_ _ _ h=>h) (by kernel_rfl) (Or.inl ⟨by rfl,?_⟩) (λ_=>bt.o) ?_
 ·intro w _;go_simp
 refine BR (i:=4) (v:=.slice L.crops.a L.crops.n L.crops.c) rfl (by kernel_rfl) (by kernel_rfl) (by kernel_rfl) (λ_ _ _ h=>h) (by kernel_rfl) (Or.inl ⟨by rfl,?_⟩) bt.o ?_
 ·intro W hW
  have hc:W.cell? (aV w.heap.size 20)=some (.slice L.crops.a L.crops.n L.crops.c):=by simp only[World.cell?,hW];rfl
  clear hW
  go_simp
 refine Az (i:=6) (v:=pV w.heap.size 21) rfl (by kernel_rfl) (by kernel_rfl) (by kernel_rfl) (λ_ _ _ h=>h) (by kernel_rfl) (Or.inl ⟨by rfl,?_⟩) (λ_=>bt.o) ?_
 ·intro w _;go_simp
 refine BR (i:=7) (v:=.slice L.reaches.a L.reaches.n L.reaches.c) rfl (by kernel_rfl) (by kernel_rfl) (by kernel_rfl) (λ_ _ _ h=>h) (by kernel_rfl) (Or.inl ⟨by rfl,?_⟩) bt.o ?_
 ·intro W hW
  have hc:W.cell? (aV w.heap.size 21)=some (.slice L.reaches.a L.reaches.n L.reaches.c):=by simp only[World.cell?,hW];rfl
  clear hW
  go_simp
 refine Az (i:=9) (v:=pV w.heap.size 22) rfl (by kernel_rfl) (by kernel_rfl) (by kernel_rfl) (λ_ _ _ h=>h) (by kernel_rfl) (Or.inl ⟨by rfl,?_⟩) (λ_=>bt.o) ?_
 ·intro w _;go_simp
 refine BR (i:=10) (v:=.slice L.farms.a L.farms.n L.farms.c) rfl (by kernel_rfl) (by kernel_rfl) (by kernel_rfl) (λ_ _ _ h=>h) (by kernel_rfl) (Or.inl ⟨by rfl,?_⟩) bt.o ?_
 ·intro W hW
  have hc:W.cell? (aV w.heap.size 22)=some (.slice L.farms.a L.farms.n L.farms.c):=by simp only[World.cell?,hW];rfl
  clear hW
  go_simp
 have b9:Hid (W1.grownBy W1.drew (some w.heap.size)):=yb (Mm gj.o)
 refine AO (i:=2) (by kernel_rfl) rfl (λK hK=>?_)
 go_simp
 refine (U9 (HV.o.lets.same (λ_ h=>h) (bp.o _ b9.o) (λ_ _ h=>h)) (bm.o _ b9.o) Ta b0.o.lets).mono ?_
 rintro e e6 ⟨⟨a7,Z,a6⟩,rfl,bn,bo,b4⟩
 rw[show AA.v ⟨a7,Z,a6⟩=Value.slice a7 Z a6 from rfl]
 simp only at bn b4
 have bb:Hid (W1.grownBy e6 (some w.heap.size)):=yb (Bv b9.o (Ch bo))
 have d5:Hid (e6.heap[w.heap.size]?=some (.cells #[.string x.name,iV x.season.op,iV x.season.n,iV x.season.u,.string x.season.rn,iV x.season.ri,.slice a0 x.season.args.length p0,iV x.cap.op,iV x.cap.n,iV x.cap.u,.string x.cap.rn,iV x.cap.ri,.slice a1 x.cap.args.length p1,iV x.start.op,iV x.start.n,iV x.start.u,.string x.start.rn,iV x.start.ri,.slice a2 x.start.args.length p2,.slice L.lets.a L.lets.n L.lets.c,.slice L.crops.a L.crops.n L.crops.c,.slice L.reaches.a L.reaches.n L.reaches.c,.slice L.farms.a L.farms.n L.farms.c,.slice L.rots.a L.rots.n L.rots.c,.slice L.rights.a L.rights.n L.rights.c,.slice L.duties.a L.duties.n L.duties.c] 49 (0,0))):=yb ((bo.block _ (by have:=b9.o.size;have:=aa.o;omega)).trans bt.o)
 have E:Hid (Iq W1.heap.size e6 118 7 (Np N w) ⟨a7,Z,a6⟩ x.lets):=yb (Iq.of bn (by exact b9.o.size) b4)
 clear bn bo b4
 refine hK.o _ _ (λ_=>d5.o) ?_
 clear hK K
 refine AO (i:=5) (by kernel_rfl) rfl (λK hK=>?_)
 go_simp
 refine (S3 (HV.o.crops.same (λ_ h=>h) (bp.o _ bb.o) (λ_ _ h=>h)) (bm.o _ bb.o) Q0 b0.o.crops).mono ?_
 rintro e dt ⟨⟨H,F,G⟩,rfl,ba,au,ap⟩
 rw[show AA.v ⟨H,F,G⟩=Value.slice H F G from rfl]
 simp only at ba ap
 have bh:Hid (W1.grownBy dt (some w.heap.size)):=yb (Bv bb.o (Ch au))
 have da:Hid (dt.heap[w.heap.size]?=some (.cells #[.string x.name,iV x.season.op,iV x.season.n,iV x.season.u,.string x.season.rn,iV x.season.ri,.slice a0 x.season.args.length p0,iV x.cap.op,iV x.cap.n,iV x.cap.u,.string x.cap.rn,iV x.cap.ri,.slice a1 x.cap.args.length p1,iV x.start.op,iV x.start.n,iV x.start.u,.string x.start.rn,iV x.start.ri,.slice a2 x.start.args.length p2,.slice L.lets.a L.lets.n L.lets.c,.slice L.crops.a L.crops.n L.crops.c,.slice L.reaches.a L.reaches.n L.reaches.c,.slice L.farms.a L.farms.n L.farms.c,.slice L.rots.a L.rots.n L.rots.c,.slice L.rights.a L.rights.n L.rights.c,.slice L.duties.a L.duties.n L.duties.c] 49 (0,0))):=yb ((au.block _ (by have:=bb.o.size;have:=aa.o;omega)).trans d5.o)
 replace E:=yb (E.o.up (λb _ f=>au.block b f))
 have C:Hid (Iq W1.heap.size dt 120 7 (K4 N w) ⟨H,F,G⟩ x.crops):=yb (Iq.of ba (by exact bb.o.size) ap)
 clear ba au ap
 refine hK.o _ _ (λ_=>da.o) ?_
 clear hK K
 refine AO (i:=8) (by kernel_rfl) rfl (λK hK=>?_)
 go_simp
 refine (Q3 (HV.o.reaches.same (λ_ h=>h) (bp.o _ bh.o) (λ_ _ h=>h)) (bm.o _ bh.o) Oc b0.o.reaches).mono ?_
 rintro e ec ⟨⟨y,m,l⟩,rfl,an,ah,ak⟩
 rw[show AA.v ⟨y,m,l⟩=Value.slice y m l from rfl]
 simp only at an ak
 have bg:Hid (W1.grownBy ec (some w.heap.size)):=yb (Bv bh.o (Ch ah))
 have cw:Hid (ec.heap[w.heap.size]?=some (.cells #[.string x.name,iV x.season.op,iV x.season.n,iV x.season.u,.string x.season.rn,iV x.season.ri,.slice a0 x.season.args.length p0,iV x.cap.op,iV x.cap.n,iV x.cap.u,.string x.cap.rn,iV x.cap.ri,.slice a1 x.cap.args.length p1,iV x.start.op,iV x.start.n,iV x.start.u,.string x.start.rn,iV x.start.ri,.slice a2 x.start.args.length p2,.slice L.lets.a L.lets.n L.lets.c,.slice L.crops.a L.crops.n L.crops.c,.slice L.reaches.a L.reaches.n L.reaches.c,.slice L.farms.a L.farms.n L.farms.c,.slice L.rots.a L.rots.n L.rots.c,.slice L.rights.a L.rights.n L.rights.c,.slice L.duties.a L.duties.n L.duties.c] 49 (0,0))):=yb ((ah.block _ (by have:=bh.o.size;have:=aa.o;omega)).trans da.o)
 replace E:=yb (E.o.up (λb _ f=>ah.block b f))
 replace C:=yb (C.o.up (λb _ f=>ah.block b f))
 have A:Hid (Iq W1.heap.size ec 123 51 (Hk N w) ⟨y,m,l⟩ x.reaches):=yb (Iq.of an (by exact bh.o.size) ak)
 clear an ah ak
 refine hK.o _ _ (λ_=>cw.o) ?_
 clear hK K
 refine AO (i:=11) (by kernel_rfl) rfl (λK hK=>?_)
 go_simp
 refine (S4 (HV.o.farms.same (λ_ h=>h) (bp.o _ bg.o) (λ_ _ h=>h)) (bm.o _ bg.o) Q1 b0.o.farms).mono ?_
 rintro e ca ⟨⟨T,nfarms,S⟩,rfl,bd,ai,ao⟩
 rw[show AA.v ⟨T,nfarms,S⟩=Value.slice T nfarms S from rfl]
 simp only at bd ao
 have du:Hid (W1.grownBy ca (some w.heap.size)):=yb (Bv bg.o (Ch ai))
 have aw:Hid (ca.heap[w.heap.size]?=some (.cells #[.string x.name,iV x.season.op,iV x.season.n,iV x.season.u,.string x.season.rn,iV x.season.ri,.slice a0 x.season.args.length p0,iV x.cap.op,iV x.cap.n,iV x.cap.u,.string x.cap.rn,iV x.cap.ri,.slice a1 x.cap.args.length p1,iV x.start.op,iV x.start.n,iV x.start.u,.string x.start.rn,iV x.start.ri,.slice a2 x.start.args.length p2,.slice L.lets.a L.lets.n L.lets.c,.slice L.crops.a L.crops.n L.crops.c,.slice L.reaches.a L.reaches.n L.reaches.c,.slice L.farms.a L.farms.n L.farms.c,.slice L.rots.a L.rots.n L.rots.c,.slice L.rights.a L.rights.n L.rights.c,.slice L.duties.a L.duties.n L.duties.c] 49 (0,0))):=yb ((ai.block _ (by have:=bg.o.size;have:=aa.o;omega)).trans cw.o)
 replace E:=yb (E.o.up (λb _ f=>ai.block b f))
 replace C:=yb (C.o.up (λb _ f=>ai.block b f))
 replace A:=yb (A.o.up (λb _ f=>ai.block b f))
 have X:Hid (Iq W1.heap.size ca 125 12 (K5 N w) ⟨T,nfarms,S⟩ x.farms):=yb (Iq.of bd (by exact bg.o.size) ao)
 clear bd ai ao
 refine hK.o _ _ (λ_=>aw.o) ?_
 clear hK K
 refine Az (i:=12) (v:=pV w.heap.size 19) rfl (by kernel_rfl) (by kernel_rfl) (by kernel_rfl) (λ_ _ _ h=>h) (by kernel_rfl) (Or.inl ⟨by rfl,?_⟩) (by first|exact λ_=>aw.o|(intro h;cases h)) ?_
 ·intro w _;go_simp
 refine AO (i:=13) (by kernel_rfl) rfl (λK hK=>?_)
 have hc:ca.cell? (aV w.heap.size 19)=some (.slice L.lets.a L.lets.n L.lets.c):=by simp only[World.cell?,aw.o];rfl
 have hf:ca.frozen? (aV w.heap.size 19)=false:=by simp[World.frozen?,aw.o]
 go_simp
 have bu:Hid ((ca.setCell (aV w.heap.size 19) (.slice a7 Z a6)).heap[w.heap.size]?=some (.cells #[.string x.name,iV x.season.op,iV x.season.n,iV x.season.u,.string x.season.rn,iV x.season.ri,.slice a0 x.season.args.length p0,iV x.cap.op,iV x.cap.n,iV x.cap.u,.string x.cap.rn,iV x.cap.ri,.slice a1 x.cap.args.length p1,iV x.start.op,iV x.start.n,iV x.start.u,.string x.start.rn,iV x.start.ri,.slice a2 x.start.args.length p2,.slice a7 Z a6,.slice L.crops.a L.crops.n L.crops.c,.slice L.reaches.a L.reaches.n L.reaches.c,.slice L.farms.a L.farms.n L.farms.c,.slice L.rots.a L.rots.n L.rots.c,.slice L.rights.a L.rights.n L.rights.c,.slice L.duties.a L.duties.n L.duties.c] 49 (0,0))):=yb (by
  have:=zp ca w.heap.size 19 _ _ (.slice a7 Z a6) aw.o
  rw[this];rfl)
 replace E:=yb (E.o.up (λb hB f=>(As (.slice a7 Z a6) hc).1.block b f (λe=>by cases e;have:=aa.o;omega)))
 replace C:=yb (C.o.up (λb hB f=>(As (.slice a7 Z a6) hc).1.block b f (λe=>by cases e;have:=aa.o;omega)))
 replace A:=yb (A.o.up (λb hB f=>(As (.slice a7 Z a6) hc).1.block b f (λe=>by cases e;have:=aa.o;omega)))
 replace X:=yb (X.o.up (λb hB f=>(As (.slice a7 Z a6) hc).1.block b f (λe=>by cases e;have:=aa.o;omega)))
 have ew:=yb (Bv du.o (As (.slice a7 Z a6) hc).1)
 clear hc hf
 generalize ca.setCell (aV w.heap.size 19) (.slice a7 Z a6)=d9 at*
 refine hK.o _ _ (by first|(intro h;cases h;done)|exact λ_=>aw.o) ?_
 clear hK K
 refine Az (i:=14) (v:=pV w.heap.size 20) rfl (by kernel_rfl) (by kernel_rfl) (by kernel_rfl) (λ_ _ _ h=>h) (by kernel_rfl) (Or.inl ⟨by rfl,?_⟩) (by first|exact λ_=>bu.o|(intro h;cases h)) ?_
 ·intro w _;go_simp
 refine AO (i:=15) (by kernel_rfl) rfl (λK hK=>?_)
 have hc:d9.cell? (aV w.heap.size 20)=some (.slice L.crops.a L.crops.n L.crops.c):=by simp only[World.cell?,bu.o];rfl
 have hf:d9.frozen? (aV w.heap.size 20)=false:=by simp[World.frozen?,bu.o]
 go_simp
 have bw:Hid ((d9.setCell (aV w.heap.size 20) (.slice H F G)).heap[w.heap.size]?=some (.cells #[.string x.name,iV x.season.op,iV x.season.n,iV x.season.u,.string x.season.rn,iV x.season.ri,.slice a0 x.season.args.length p0,iV x.cap.op,iV x.cap.n,iV x.cap.u,.string x.cap.rn,iV x.cap.ri,.slice a1 x.cap.args.length p1,iV x.start.op,iV x.start.n,iV x.start.u,.string x.start.rn,iV x.start.ri,.slice a2 x.start.args.length p2,.slice a7 Z a6,.slice H F G,.slice L.reaches.a L.reaches.n L.reaches.c,.slice L.farms.a L.farms.n L.farms.c,.slice L.rots.a L.rots.n L.rots.c,.slice L.rights.a L.rights.n L.rights.c,.slice L.duties.a L.duties.n L.duties.c] 49 (0,0))):=yb (by
  have:=zp d9 w.heap.size 20 _ _ (.slice H F G) bu.o
  rw[this];rfl)
 replace E:=yb (E.o.up (λb hB f=>(As (.slice H F G) hc).1.block b f (λe=>by cases e;have:=aa.o;omega)))
 replace C:=yb (C.o.up (λb hB f=>(As (.slice H F G) hc).1.block b f (λe=>by cases e;have:=aa.o;omega)))
 replace A:=yb (A.o.up (λb hB f=>(As (.slice H F G) hc).1.block b f (λe=>by cases e;have:=aa.o;omega)))
 replace X:=yb (X.o.up (λb hB f=>(As (.slice H F G) hc).1.block b f (λe=>by cases e;have:=aa.o;omega)))
 have g6:=yb (Bv ew.o (As (.slice H F G) hc).1)
 clear hc hf
 generalize d9.setCell (aV w.heap.size 20) (.slice H F G)=cz at*
 refine hK.o _ _ (by first|(intro h;cases h;done)|exact λ_=>bu.o) ?_
 clear hK K
 refine Az (i:=16) (v:=pV w.heap.size 21) rfl (by kernel_rfl) (by kernel_rfl) (by kernel_rfl) (λ_ _ _ h=>h) (by kernel_rfl) (Or.inl ⟨by rfl,?_⟩) (by first|exact λ_=>bw.o|(intro h;cases h)) ?_
 ·intro w _;go_simp
 refine AO (i:=17) (by kernel_rfl) rfl (λK hK=>?_)
 have hc:cz.cell? (aV w.heap.size 21)=some (.slice L.reaches.a L.reaches.n L.reaches.c):=by simp only[World.cell?,bw.o];rfl
 have hf:cz.frozen? (aV w.heap.size 21)=false:=by simp[World.frozen?,bw.o]
 go_simp
 have bv:Hid ((cz.setCell (aV w.heap.size 21) (.slice y m l)).heap[w.heap.size]?=some (.cells #[.string x.name,iV x.season.op,iV x.season.n,iV x.season.u,.string x.season.rn,iV x.season.ri,.slice a0 x.season.args.length p0,iV x.cap.op,iV x.cap.n,iV x.cap.u,.string x.cap.rn,iV x.cap.ri,.slice a1 x.cap.args.length p1,iV x.start.op,iV x.start.n,iV x.start.u,.string x.start.rn,iV x.start.ri,.slice a2 x.start.args.length p2,.slice a7 Z a6,.slice H F G,.slice y m l,.slice L.farms.a L.farms.n L.farms.c,.slice L.rots.a L.rots.n L.rots.c,.slice L.rights.a L.rights.n L.rights.c,.slice L.duties.a L.duties.n L.duties.c] 49 (0,0))):=yb (by
  have:=zp cz w.heap.size 21 _ _ (.slice y m l) bw.o
  rw[this];rfl)
 replace E:=yb (E.o.up (λb hB f=>(As (.slice y m l) hc).1.block b f (λe=>by cases e;have:=aa.o;omega)))
 replace C:=yb (C.o.up (λb hB f=>(As (.slice y m l) hc).1.block b f (λe=>by cases e;have:=aa.o;omega)))
 replace A:=yb (A.o.up (λb hB f=>(As (.slice y m l) hc).1.block b f (λe=>by cases e;have:=aa.o;omega)))
 replace X:=yb (X.o.up (λb hB f=>(As (.slice y m l) hc).1.block b f (λe=>by cases e;have:=aa.o;omega)))
 have er:=yb (Bv g6.o (As (.slice y m l) hc).1)
 clear hc hf
 generalize cz.setCell (aV w.heap.size 21) (.slice y m l)=co at*
 refine hK.o _ _ (by first|(intro h;cases h;done)|exact λ_=>bw.o) ?_
 clear hK K
 refine Az (i:=18) (v:=pV w.heap.size 22) rfl (by kernel_rfl) (by kernel_rfl) (by kernel_rfl) (λ_ _ _ h=>h) (by kernel_rfl) (Or.inl ⟨by rfl,?_⟩) (by first|exact λ_=>bv.o|(intro h;cases h)) ?_
 ·intro w _;go_simp
 refine AO (i:=19) (by kernel_rfl) rfl (λK hK=>?_)
 have hc:co.cell? (aV w.heap.size 22)=some (.slice L.farms.a L.farms.n L.farms.c):=by simp only[World.cell?,bv.o];rfl
 have hf:co.frozen? (aV w.heap.size 22)=false:=by simp[World.frozen?,bv.o]
 go_simp
 have ff:Hid ((co.setCell (aV w.heap.size 22) (.slice T nfarms S)).heap[w.heap.size]?=some (.cells #[.string x.name,iV x.season.op,iV x.season.n,iV x.season.u,.string x.season.rn,iV x.season.ri,.slice a0 x.season.args.length p0,iV x.cap.op,iV x.cap.n,iV x.cap.u,.string x.cap.rn,iV x.cap.ri,.slice a1 x.cap.args.length p1,iV x.start.op,iV x.start.n,iV x.start.u,.string x.start.rn,iV x.start.ri,.slice a2 x.start.args.length p2,.slice a7 Z a6,.slice H F G,.slice y m l,.slice T nfarms S,.slice L.rots.a L.rots.n L.rots.c,.slice L.rights.a L.rights.n L.rights.c,.slice L.duties.a L.duties.n L.duties.c] 49 (0,0))):=yb (by
  have:=zp co w.heap.size 22 _ _ (.slice T nfarms S) bv.o
  rw[this];rfl)
 replace E:=yb (E.o.up (λb hB f=>(As (.slice T nfarms S) hc).1.block b f (λe=>by cases e;have:=aa.o;omega)))
 replace C:=yb (C.o.up (λb hB f=>(As (.slice T nfarms S) hc).1.block b f (λe=>by cases e;have:=aa.o;omega)))
 replace A:=yb (A.o.up (λb hB f=>(As (.slice T nfarms S) hc).1.block b f (λe=>by cases e;have:=aa.o;omega)))
 replace X:=yb (X.o.up (λb hB f=>(As (.slice T nfarms S) hc).1.block b f (λe=>by cases e;have:=aa.o;omega)))
 have f8:=yb (Bv er.o (As (.slice T nfarms S) hc).1)
 clear hc hf
 generalize co.setCell (aV w.heap.size 22) (.slice T nfarms S)=ex at*
 refine hK.o _ _ (by first|(intro h;cases h;done)|exact λ_=>bv.o) ?_
 clear hK K
 refine AP (by kernel_rfl) ?_
 refine NoPanic.normal ?_
 simp only[Exit.then]
 refine Aj (Aa ?_)
 refine wp_region_noPanic ?_
 have f0:ex.drew.heap[w.heap.size]?=some (.cells #[.string x.name,iV x.season.op,iV x.season.n,iV x.season.u,.string x.season.rn,iV x.season.ri,.slice a0 x.season.args.length p0,iV x.cap.op,iV x.cap.n,iV x.cap.u,.string x.cap.rn,iV x.cap.ri,.slice a1 x.cap.args.length p1,iV x.start.op,iV x.start.n,iV x.start.u,.string x.start.rn,iV x.start.ri,.slice a2 x.start.args.length p2,.slice a7 Z a6,.slice H F G,.slice y m l,.slice T nfarms S,.slice L.rots.a L.rots.n L.rots.c,.slice L.rights.a L.rights.n L.rights.c,.slice L.duties.a L.duties.n L.duties.c] 49 (0,0)):=ff.o
 have cf:=yb f0
 clear f0
 refine Dl (by kernel_rfl) (λW=>W.heap[w.heap.size]?=some (.cells #[.string x.name,iV x.season.op,iV x.season.n,iV x.season.u,.string x.season.rn,iV x.season.ri,.slice a0 x.season.args.length p0,iV x.cap.op,iV x.cap.n,iV x.cap.u,.string x.cap.rn,iV x.cap.ri,.slice a1 x.cap.args.length p1,iV x.start.op,iV x.start.n,iV x.start.u,.string x.start.rn,iV x.start.ri,.slice a2 x.start.args.length p2,.slice a7 Z a6,.slice H F G,.slice y m l,.slice T nfarms S,.slice L.rots.a L.rots.n L.rots.c,.slice L.rights.a L.rights.n L.rights.c,.slice L.duties.a L.duties.n L.duties.c] 49 (0,0))) 10 ?_
 refine Az (i:=0) (v:=pV w.heap.size 23) rfl (by kernel_rfl) (by kernel_rfl) (by kernel_rfl) (λ_ _ _ h=>h) (by kernel_rfl) (Or.inl ⟨by rfl,?_⟩) (λ_=>cf.o) ?_
 ·intro w _;go_simp
 refine BR (i:=1) (v:=.slice L.rots.a L.rots.n L.rots.c) rfl (by kernel_rfl) (by kernel_rfl) (by kernel_rfl) (λ_ _ _ h=>h) (by kernel_rfl) (Or.inl ⟨by rfl,?_⟩) cf.o ?_
 ·intro W hW
  have hc:W.cell? (aV w.heap.size 23)=some (.slice L.rots.a L.rots.n L.rots.c):=by simp only[World.cell?,hW];rfl
  clear hW
  go_simp
 refine Az (i:=3) (v:=pV w.heap.size 24) rfl (by kernel_rfl) (by kernel_rfl) (by kernel_rfl) (λ_ _ _ h=>h) (by kernel_rfl) (Or.inl ⟨by rfl,?_⟩) (λ_=>cf.o) ?_
 ·intro w _;go_simp
 refine BR (i:=4) (v:=.slice L.rights.a L.rights.n L.rights.c) rfl (by kernel_rfl) (by kernel_rfl) (by kernel_rfl) (λ_ _ _ h=>h) (by kernel_rfl) (Or.inl ⟨by rfl,?_⟩) cf.o ?_
 ·intro W hW
  have hc:W.cell? (aV w.heap.size 24)=some (.slice L.rights.a L.rights.n L.rights.c):=by simp only[World.cell?,hW];rfl
  clear hW
  go_simp
 refine Az (i:=6) (v:=pV w.heap.size 25) rfl (by kernel_rfl) (by kernel_rfl) (by kernel_rfl) (λ_ _ _ h=>h) (by kernel_rfl) (Or.inl ⟨by rfl,?_⟩) (λ_=>cf.o) ?_
 ·intro w _;go_simp
 refine BR (i:=7) (v:=.slice L.duties.a L.duties.n L.duties.c) rfl (by kernel_rfl) (by kernel_rfl) (by kernel_rfl) (λ_ _ _ h=>h) (by kernel_rfl) (Or.inl ⟨by rfl,?_⟩) cf.o ?_
 ·intro W hW
  have hc:W.cell? (aV w.heap.size 25)=some (.slice L.duties.a L.duties.n L.duties.c):=by simp only[World.cell?,hW];rfl
  clear hW
  go_simp
 have b7:Hid (W1.grownBy ex.drew (some w.heap.size)):=yb (Mm f8.o)
 refine AO (i:=2) (by kernel_rfl) rfl (λK hK=>?_)
 go_simp
 refine (Ua (Q:=(λcs (d:Bq × Nat)=>Ip N w (Ac L d.2) cs d.1)) (VL (HV.o.rots) (bp.o _ b7.o)) (bm.o _ b7.o) VK (by rw[zW];exact b0.o.rots)).mono ?_
 rintro e dw ⟨⟨a8,nrots,Y⟩,rfl,bq,aj,ax⟩
 rw[show AA.v ⟨a8,nrots,Y⟩=Value.slice a8 nrots Y from rfl]
 simp only at bq ax
 have bj:Hid (W1.grownBy dw (some w.heap.size)):=yb (Bv b7.o (Ch aj))
 have cx:Hid (dw.heap[w.heap.size]?=some (.cells #[.string x.name,iV x.season.op,iV x.season.n,iV x.season.u,.string x.season.rn,iV x.season.ri,.slice a0 x.season.args.length p0,iV x.cap.op,iV x.cap.n,iV x.cap.u,.string x.cap.rn,iV x.cap.ri,.slice a1 x.cap.args.length p1,iV x.start.op,iV x.start.n,iV x.start.u,.string x.start.rn,iV x.start.ri,.slice a2 x.start.args.length p2,.slice a7 Z a6,.slice H F G,.slice y m l,.slice T nfarms S,.slice L.rots.a L.rots.n L.rots.c,.slice L.rights.a L.rights.n L.rights.c,.slice L.duties.a L.duties.n L.duties.c] 49 (0,0))):=yb ((aj.block _ (by have:=b7.o.size;have:=aa.o;omega)).trans cf.o)
 replace E:=yb (E.o.up (λb _ f=>aj.block b f))
 replace C:=yb (C.o.up (λb _ f=>aj.block b f))
 replace A:=yb (A.o.up (λb _ f=>aj.block b f))
 replace X:=yb (X.o.up (λb _ f=>aj.block b f))
 have ab:Hid (Iq W1.heap.size dw 56 23 (λcs (d:Bq × Nat)=>Ip N w (Ac L d.2) cs d.1) ⟨a8,nrots,Y⟩ x.rots.zipIdx):=yb (Iq.of bq (by exact b7.o.size) ax)
 clear bq aj ax
 refine hK.o _ _ (λ_=>cx.o) ?_
 clear hK K
 refine AO (i:=5) (by kernel_rfl) rfl (λK hK=>?_)
 go_simp
 refine (Q4 (HV.o.rights.same (λ_ h=>h) (bp.o _ bj.o) (λ_ _ h=>h)) (bm.o _ bj.o) Od b0.o.rights).mono ?_
 rintro e ek ⟨⟨J,nrights,I⟩,rfl,b3,af,al⟩
 rw[show AA.v ⟨J,nrights,I⟩=Value.slice J nrights I from rfl]
 simp only at b3 al
 have bi:Hid (W1.grownBy ek (some w.heap.size)):=yb (Bv bj.o (Ch af))
 have cn:Hid (ek.heap[w.heap.size]?=some (.cells #[.string x.name,iV x.season.op,iV x.season.n,iV x.season.u,.string x.season.rn,iV x.season.ri,.slice a0 x.season.args.length p0,iV x.cap.op,iV x.cap.n,iV x.cap.u,.string x.cap.rn,iV x.cap.ri,.slice a1 x.cap.args.length p1,iV x.start.op,iV x.start.n,iV x.start.u,.string x.start.rn,iV x.start.ri,.slice a2 x.start.args.length p2,.slice a7 Z a6,.slice H F G,.slice y m l,.slice T nfarms S,.slice L.rots.a L.rots.n L.rots.c,.slice L.rights.a L.rights.n L.rights.c,.slice L.duties.a L.duties.n L.duties.c] 49 (0,0))):=yb ((af.block _ (by have:=bj.o.size;have:=aa.o;omega)).trans cx.o)
 replace E:=yb (E.o.up (λb _ f=>af.block b f))
 replace C:=yb (C.o.up (λb _ f=>af.block b f))
 replace A:=yb (A.o.up (λb _ f=>af.block b f))
 replace X:=yb (X.o.up (λb _ f=>af.block b f))
 replace ab:=yb (ab.o.up (λb _ f=>af.block b f))
 have ac:Hid (Iq W1.heap.size ek 127 37 (Gu N w) ⟨J,nrights,I⟩ x.rights):=yb (Iq.of b3 (by exact bj.o.size) al)
 clear b3 af al
 refine hK.o _ _ (λ_=>cn.o) ?_
 clear hK K
 refine AO (i:=8) (by kernel_rfl) rfl (λK hK=>?_)
 go_simp
 refine (S5 (HV.o.duties.same (λ_ h=>h) (bp.o _ bi.o) (λ_ _ h=>h)) (bm.o _ bi.o) Q2 b0.o.duties).mono ?_
 rintro e c9 ⟨⟨R,nduties,P⟩,rfl,av,ad,am⟩
 rw[show AA.v ⟨R,nduties,P⟩=Value.slice R nduties P from rfl]
 simp only at av am
 have em:Hid (W1.grownBy c9 (some w.heap.size)):=yb (Bv bi.o (Ch ad))
 have ay:Hid (c9.heap[w.heap.size]?=some (.cells #[.string x.name,iV x.season.op,iV x.season.n,iV x.season.u,.string x.season.rn,iV x.season.ri,.slice a0 x.season.args.length p0,iV x.cap.op,iV x.cap.n,iV x.cap.u,.string x.cap.rn,iV x.cap.ri,.slice a1 x.cap.args.length p1,iV x.start.op,iV x.start.n,iV x.start.u,.string x.start.rn,iV x.start.ri,.slice a2 x.start.args.length p2,.slice a7 Z a6,.slice H F G,.slice y m l,.slice T nfarms S,.slice L.rots.a L.rots.n L.rots.c,.slice L.rights.a L.rights.n L.rights.c,.slice L.duties.a L.duties.n L.duties.c] 49 (0,0))):=yb ((ad.block _ (by have:=bi.o.size;have:=aa.o;omega)).trans cn.o)
 replace E:=yb (E.o.up (λb _ f=>ad.block b f))
 replace C:=yb (C.o.up (λb _ f=>ad.block b f))
 replace A:=yb (A.o.up (λb _ f=>ad.block b f))
 replace X:=yb (X.o.up (λb _ f=>ad.block b f))
 replace ab:=yb (ab.o.up (λb _ f=>ad.block b f))
 replace ac:=yb (ac.o.up (λb _ f=>ad.block b f))
 have ae:Hid (Iq W1.heap.size c9 129 11 (K6 N w) ⟨R,nduties,P⟩ x.duties):=yb (Iq.of av (by exact bi.o.size) am)
 clear av ad am
 refine hK.o _ _ (λ_=>ay.o) ?_
 clear hK K
 refine Az (i:=9) (v:=pV w.heap.size 23) rfl (by kernel_rfl) (by kernel_rfl) (by kernel_rfl) (λ_ _ _ h=>h) (by kernel_rfl) (Or.inl ⟨by rfl,?_⟩) (by first|exact λ_=>ay.o|(intro h;cases h)) ?_
 ·intro w _;go_simp
 refine AO (i:=10) (by kernel_rfl) rfl (λK hK=>?_)
 have hc:c9.cell? (aV w.heap.size 23)=some (.slice L.rots.a L.rots.n L.rots.c):=by simp only[World.cell?,ay.o];rfl
 have hf:c9.frozen? (aV w.heap.size 23)=false:=by simp[World.frozen?,ay.o]
 go_simp
 have cb:Hid ((c9.setCell (aV w.heap.size 23) (.slice a8 nrots Y)).heap[w.heap.size]?=some (.cells #[.string x.name,iV x.season.op,iV x.season.n,iV x.season.u,.string x.season.rn,iV x.season.ri,.slice a0 x.season.args.length p0,iV x.cap.op,iV x.cap.n,iV x.cap.u,.string x.cap.rn,iV x.cap.ri,.slice a1 x.cap.args.length p1,iV x.start.op,iV x.start.n,iV x.start.u,.string x.start.rn,iV x.start.ri,.slice a2 x.start.args.length p2,.slice a7 Z a6,.slice H F G,.slice y m l,.slice T nfarms S,.slice a8 nrots Y,.slice L.rights.a L.rights.n L.rights.c,.slice L.duties.a L.duties.n L.duties.c] 49 (0,0))):=yb (by
  have:=zp c9 w.heap.size 23 _ _ (.slice a8 nrots Y) ay.o
  rw[this];rfl)
 replace E:=yb (E.o.up (λb hB f=>(As (.slice a8 nrots Y) hc).1.block b f (λe=>by cases e;have:=aa.o;omega)))
 replace C:=yb (C.o.up (λb hB f=>(As (.slice a8 nrots Y) hc).1.block b f (λe=>by cases e;have:=aa.o;omega)))
 replace A:=yb (A.o.up (λb hB f=>(As (.slice a8 nrots Y) hc).1.block b f (λe=>by cases e;have:=aa.o;omega)))
 replace X:=yb (X.o.up (λb hB f=>(As (.slice a8 nrots Y) hc).1.block b f (λe=>by cases e;have:=aa.o;omega)))
 replace ab:=yb (ab.o.up (λb hB f=>(As (.slice a8 nrots Y) hc).1.block b f (λe=>by cases e;have:=aa.o;omega)))
 replace ac:=yb (ac.o.up (λb hB f=>(As (.slice a8 nrots Y) hc).1.block b f (λe=>by cases e;have:=aa.o;omega)))
 replace ae:=yb (ae.o.up (λb hB f=>(As (.slice a8 nrots Y) hc).1.block b f (λe=>by cases e;have:=aa.o;omega)))
 have gb:=yb (Bv em.o (As (.slice a8 nrots Y) hc).1)
 clear hc hf
 generalize c9.setCell (aV w.heap.size 23) (.slice a8 nrots Y)=cq at*
 refine hK.o _ _ (by first|(intro h;cases h;done)|exact λ_=>ay.o) ?_
 clear hK K
 refine Az (i:=11) (v:=pV w.heap.size 24) rfl (by kernel_rfl) (by kernel_rfl) (by kernel_rfl) (λ_ _ _ h=>h) (by kernel_rfl) (Or.inl ⟨by rfl,?_⟩) (by first|exact λ_=>cb.o|(intro h;cases h)) ?_
 ·intro w _;go_simp
 refine AO (i:=12) (by kernel_rfl) rfl (λK hK=>?_)
 have hc:cq.cell? (aV w.heap.size 24)=some (.slice L.rights.a L.rights.n L.rights.c):=by simp only[World.cell?,cb.o];rfl
 have hf:cq.frozen? (aV w.heap.size 24)=false:=by simp[World.frozen?,cb.o]
 go_simp
 have c8:Hid ((cq.setCell (aV w.heap.size 24) (.slice J nrights I)).heap[w.heap.size]?=some (.cells #[.string x.name,iV x.season.op,iV x.season.n,iV x.season.u,.string x.season.rn,iV x.season.ri,.slice a0 x.season.args.length p0,iV x.cap.op,iV x.cap.n,iV x.cap.u,.string x.cap.rn,iV x.cap.ri,.slice a1 x.cap.args.length p1,iV x.start.op,iV x.start.n,iV x.start.u,.string x.start.rn,iV x.start.ri,.slice a2 x.start.args.length p2,.slice a7 Z a6,.slice H F G,.slice y m l,.slice T nfarms S,.slice a8 nrots Y,.slice J nrights I,.slice L.duties.a L.duties.n L.duties.c] 49 (0,0))):=yb (by
  have:=zp cq w.heap.size 24 _ _ (.slice J nrights I) cb.o
  rw[this];rfl)
 replace E:=yb (E.o.up (λb hB f=>(As (.slice J nrights I) hc).1.block b f (λe=>by cases e;have:=aa.o;omega)))
 replace C:=yb (C.o.up (λb hB f=>(As (.slice J nrights I) hc).1.block b f (λe=>by cases e;have:=aa.o;omega)))
 replace A:=yb (A.o.up (λb hB f=>(As (.slice J nrights I) hc).1.block b f (λe=>by cases e;have:=aa.o;omega)))
 replace X:=yb (X.o.up (λb hB f=>(As (.slice J nrights I) hc).1.block b f (λe=>by cases e;have:=aa.o;omega)))
 replace ab:=yb (ab.o.up (λb hB f=>(As (.slice J nrights I) hc).1.block b f (λe=>by cases e;have:=aa.o;omega)))
 replace ac:=yb (ac.o.up (λb hB f=>(As (.slice J nrights I) hc).1.block b f (λe=>by cases e;have:=aa.o;omega)))
 replace ae:=yb (ae.o.up (λb hB f=>(As (.slice J nrights I) hc).1.block b f (λe=>by cases e;have:=aa.o;omega)))
 have fk:=yb (Bv gb.o (As (.slice J nrights I) hc).1)
 clear hc hf
 generalize cq.setCell (aV w.heap.size 24) (.slice J nrights I)=dc at*
 refine hK.o _ _ (by first|(intro h;cases h;done)|exact λ_=>cb.o) ?_
 clear hK K
 refine Az (i:=13) (v:=pV w.heap.size 25) rfl (by kernel_rfl) (by kernel_rfl) (by kernel_rfl) (λ_ _ _ h=>h) (by kernel_rfl) (Or.inl ⟨by rfl,?_⟩) (by first|exact λ_=>c8.o|(intro h;cases h)) ?_
 ·intro w _;go_simp
 refine AO (i:=14) (by kernel_rfl) rfl (λK hK=>?_)
 have hc:dc.cell? (aV w.heap.size 25)=some (.slice L.duties.a L.duties.n L.duties.c):=by simp only[World.cell?,c8.o];rfl
 have hf:dc.frozen? (aV w.heap.size 25)=false:=by simp[World.frozen?,c8.o]
 go_simp
 have en:Hid ((dc.setCell (aV w.heap.size 25) (.slice R nduties P)).heap[w.heap.size]?=some (.cells #[.string x.name,iV x.season.op,iV x.season.n,iV x.season.u,.string x.season.rn,iV x.season.ri,.slice a0 x.season.args.length p0,iV x.cap.op,iV x.cap.n,iV x.cap.u,.string x.cap.rn,iV x.cap.ri,.slice a1 x.cap.args.length p1,iV x.start.op,iV x.start.n,iV x.start.u,.string x.start.rn,iV x.start.ri,.slice a2 x.start.args.length p2,.slice a7 Z a6,.slice H F G,.slice y m l,.slice T nfarms S,.slice a8 nrots Y,.slice J nrights I,.slice R nduties P] 49 (0,0))):=yb (by
  have:=zp dc w.heap.size 25 _ _ (.slice R nduties P) c8.o
  rw[this];rfl)
 replace E:=yb (E.o.up (λb hB f=>(As (.slice R nduties P) hc).1.block b f (λe=>by cases e;have:=aa.o;omega)))
 replace C:=yb (C.o.up (λb hB f=>(As (.slice R nduties P) hc).1.block b f (λe=>by cases e;have:=aa.o;omega)))
 replace A:=yb (A.o.up (λb hB f=>(As (.slice R nduties P) hc).1.block b f (λe=>by cases e;have:=aa.o;omega)))
 replace X:=yb (X.o.up (λb hB f=>(As (.slice R nduties P) hc).1.block b f (λe=>by cases e;have:=aa.o;omega)))
 replace ab:=yb (ab.o.up (λb hB f=>(As (.slice R nduties P) hc).1.block b f (λe=>by cases e;have:=aa.o;omega)))
 replace ac:=yb (ac.o.up (λb hB f=>(As (.slice R nduties P) hc).1.block b f (λe=>by cases e;have:=aa.o;omega)))
 replace ae:=yb (ae.o.up (λb hB f=>(As (.slice R nduties P) hc).1.block b f (λe=>by cases e;have:=aa.o;omega)))
 have fg:=yb (Bv fk.o (As (.slice R nduties P) hc).1)
 clear hc hf
 generalize dc.setCell (aV w.heap.size 25) (.slice R nduties P)=gl at*
 refine hK.o _ _ (by first|(intro h;cases h;done)|exact λ_=>c8.o) ?_
 clear hK K
 refine AP (by kernel_rfl) ?_
 refine NoPanic.normal ?_
 simp only[Exit.then]
 obtain ⟨U,rfl⟩:∃z:World,z=gl:=⟨_,rfl⟩
 have HQ:=yb en.o
 have HP:=yb fg.o
 have e3:nrots=x.rots.length:=by have:=ab.o.1;simp only[zW] at this;exact this
 have gs:nrots<=100000:=by rw[e3];exact b0.o.rots
 have dh:=yb e3
 clear e3
 have ck:U.cell? (aV w.heap.size 23)=some (.slice a8 nrots Y):=by simp only[World.cell?,HQ.o];rfl
 refine Aj (Aa ?_)
 go_wp2
 clear ck
 go_loopw [37] (λiv wr=>∃hs:List AA,hs.length<=nrots/\iv=iV (hs.length:Int)/\Hid (Zs U a8 N w x.rots hs wr)) (λiv _=>nrots - (intOf iv).toNat)
 case atStart=>exact ⟨[],yC _,rfl,yb ⟨Ml _ _,yC _,λ_ _ _ h=>h,λ_ _ _ _=>rfl,λj hj=>by simp at hj⟩⟩
 obtain ⟨hs,hi,rfl,ag⟩:=hrel
 obtain ⟨i,cl⟩:∃i,i=hs.length:=⟨_,rfl⟩
 rw[<-cl] at hi |-
 by_cases f:i < nrots
 ·have gz:i < x.rots.zipIdx.length:=by rw[zW,<-dh.o];exact f
  have ci:i < x.rots.length:=by rw[<-dh.o];exact f
  obtain ⟨g,cs,ha,fm,cd,az,ep,d7⟩:=ab.o.2 i gz
  simp only at ha
  subst ha
  rw[qM] at d7
  simp only[yy] at d7
  have d0:=O5 d7 az
  have hz:=aa.o
  have f2:wr.cell? (aV g (i*23+22))=some (.slice (Ac L i).a (Ac L i).n (Ac L i).c):=(ag.o.cells g rfl _ (λj hj=>by omega)).trans (ep 22 _ d0)
  have fe:wr.heap[w.heap.size]?=some (.cells #[.string x.name,iV x.season.op,iV x.season.n,iV x.season.u,.string x.season.rn,iV x.season.ri,.slice a0 x.season.args.length p0,iV x.cap.op,iV x.cap.n,iV x.cap.u,.string x.cap.rn,iV x.cap.ri,.slice a1 x.cap.args.length p1,iV x.start.op,iV x.start.n,iV x.start.u,.string x.start.rn,iV x.start.ri,.slice a2 x.start.args.length p2,.slice a7 Z a6,.slice H F G,.slice y m l,.slice T nfarms S,.slice (some (aV g 0)) nrots Y,.slice J nrights I,.slice R nduties P] 49 (0,0)):=(ag.o.grown.block _ (by have:=HP.o.size;omega) (λe=>by rw[FY ci] at e;cases e;omega)).trans HQ.o
  have ey:∀V:World,Below wr.heap.size wr V->V.frozen? (aV g (i*23+22))=false:=λV hV=>(Ty.same (ag.o.ty g rfl _ cd) (hV.block g (yx cd.lt ag.o.grown.size))).frozen
  have cv:=VJ d7
  have fl:∀b,N b->wr.heap[b]?=w.heap[b]?:=λb hb=>(ag.o.grown.block b (bm.o _ HP.o b hb) (λe=>by rw[FY ci] at e;cases e;have:=HN.o _ hb;omega)).trans (bp.o _ HP.o b hb)
  have fh:∀b,N b->b < wr.drew.heap.size:=λb hb=>yx (bm.o _ HP.o b hb) ag.o.grown.size
  have dg:=yb (S6 (w:=wr.drew) (cv.same (λ_ h=>h) fl (λ_ _ h=>h)) fh VE (b0.o.turns _ (yR ci)))
  have be:Hid (wr.drew.heap[w.heap.size]?=some (.cells #[.string x.name,iV x.season.op,iV x.season.n,iV x.season.u,.string x.season.rn,iV x.season.ri,.slice a0 x.season.args.length p0,iV x.cap.op,iV x.cap.n,iV x.cap.u,.string x.cap.rn,iV x.cap.ri,.slice a1 x.cap.args.length p1,iV x.start.op,iV x.start.n,iV x.start.u,.string x.start.rn,iV x.start.ri,.slice a2 x.start.args.length p2,.slice a7 Z a6,.slice H F G,.slice y m l,.slice T nfarms S,.slice (some (aV g 0)) nrots Y,.slice J nrights I,.slice R nduties P] 49 (0,0))/\wr.drew.cell? (aV g (i*23+22))=some (.slice (Ac L i).a (Ac L i).n (Ac L i).c)):=yb ⟨fe,f2⟩
  have hn:=yb ey
  have h6:Hid (g < U.heap.size):=yb cd.lt
  have gi:Hid (g < wr.heap.size/\w.heap.size < wr.heap.size):=yb ⟨yx cd.lt ag.o.grown.size,by have:=HP.o.size;have:=ag.o.grown.size;omega⟩
  have ed:=yb cl
  have eu:=yb ci
  have gp:(i:Int) < (nrots:Int):=by omega
  clear fm cd az ep d7 d0 fe ey cv fl fh cl hz f2
  go_upto_region 6 with fail
  refine wp_region_noPanic ?_
  refine Dl (by kernel_rfl) (λW=>W.heap[w.heap.size]?=some (.cells #[.string x.name,iV x.season.op,iV x.season.n,iV x.season.u,.string x.season.rn,iV x.season.ri,.slice a0 x.season.args.length p0,iV x.cap.op,iV x.cap.n,iV x.cap.u,.string x.cap.rn,iV x.cap.ri,.slice a1 x.cap.args.length p1,iV x.start.op,iV x.start.n,iV x.start.u,.string x.start.rn,iV x.start.ri,.slice a2 x.start.args.length p2,.slice a7 Z a6,.slice H F G,.slice y m l,.slice T nfarms S,.slice (some (aV g 0)) nrots Y,.slice J nrights I,.slice R nduties P] 49 (0,0))/\W.cell? (aV g (i*23+22))=some (.slice (Ac L i).a (Ac L i).n (Ac L i).c)) 12 ?_
  refine Az (i:=0) (v:=pV w.heap.size 23) rfl (by kernel_rfl) (by kernel_rfl) (by kernel_rfl) (λ_ _ _ h=>h) (by kernel_rfl) (Or.inl ⟨by rfl,?_⟩) (λ_=>be.o) ?_
  ·intro w _;go_simp
  refine BR (i:=1) (v:=.slice (some (aV g 0)) nrots Y) rfl (by kernel_rfl) (by kernel_rfl) (by kernel_rfl) (λ_ _ _ h=>h) (by kernel_rfl) (Or.inl ⟨by rfl,?_⟩) be.o ?_
  ·rintro W ⟨hW,f7⟩
   have hc:W.cell? (aV w.heap.size 23)=some (.slice (some (aV g 0)) nrots Y):=by simp only[World.cell?,hW];rfl
   clear hW
   go_simp
  refine Az (i:=2) (v:=iV (i:Int)) rfl (by kernel_rfl) (by kernel_rfl) (by kernel_rfl) (λ_ _ _ h=>h) (by kernel_rfl) (Or.inl ⟨by rfl,?_⟩) (λ_=>be.o) ?_
  ·intro w _;go_simp
  refine Az (i:=3) (v:=pV w.heap.size 23) rfl (by kernel_rfl) (by kernel_rfl) (by kernel_rfl) (λ_ _ _ h=>h) (by kernel_rfl) (Or.inl ⟨by rfl,?_⟩) (λ_=>be.o) ?_
  ·intro w _;go_simp
  refine BR (i:=4) (v:=.slice (some (aV g 0)) nrots Y) rfl (by kernel_rfl) (by kernel_rfl) (by kernel_rfl) (λ_ _ _ h=>h) (by kernel_rfl) (Or.inl ⟨by rfl,?_⟩) be.o ?_
  ·rintro W ⟨hW,f7⟩
   have hc:W.cell? (aV w.heap.size 23)=some (.slice (some (aV g 0)) nrots Y):=by simp only[World.cell?,hW];rfl
   clear hW
   go_simp
  refine Az (i:=5) (v:=iV (i:Int)) rfl (by kernel_rfl) (by kernel_rfl) (by kernel_rfl) (λ_ _ _ h=>h) (by kernel_rfl) (Or.inl ⟨by rfl,?_⟩) (λ_=>be.o) ?_
  ·intro w _;go_simp
  refine Az (i:=6) (v:=pV g (i*23)) rfl (by kernel_rfl) (by kernel_rfl) (by kernel_rfl) (λ_ _ _ h=>h) (by kernel_rfl) (Or.inl ⟨by rfl,?_⟩) (λ_=>be.o) ?_
  ·intro w _;go_simp
  refine Az (i:=7) (v:=pV g (i*23+22)) rfl (by kernel_rfl) (by kernel_rfl) (by kernel_rfl) (λ_ _ _ h=>h) (by kernel_rfl) (Or.inl ⟨by rfl,?_⟩) (λ_=>be.o) ?_
  ·intro w _;go_simp
  refine BR (i:=8) (v:=.slice (Ac L i).a (Ac L i).n (Ac L i).c) rfl (by kernel_rfl) (by kernel_rfl) (by kernel_rfl) (λ_ _ _ h=>h) (by kernel_rfl) (Or.inl ⟨by rfl,?_⟩) be.o ?_
  ·rintro W ⟨hW,f7⟩
   have hc:W.cell? (aV w.heap.size 23)=some (.slice (some (aV g 0)) nrots Y):=by simp only[World.cell?,hW];rfl
   clear hW
   go_simp
  refine AO (i:=9) (by kernel_rfl) rfl (λK hK=>?_)
  go_simp
  refine dg.o.mono ?_
  rintro e V ⟨⟨ta,tn,tc⟩,rfl,e4,dj,cg⟩
  rw[show AA.v ⟨ta,tn,tc⟩=Value.slice ta tn tc from rfl]
  simp only at e4 cg
  have i0:Hid (Iq wr.heap.size V 65 8 (IA N w) ⟨ta,tn,tc⟩ (x.rots[i]'eu.o).turns):=yb (Iq.of e4 (yi _) cg)
  have g8:Hid (Below wr.heap.size wr V):=yb ((yg _ _).drew.trans dj)
  have de:Hid (V.heap[w.heap.size]?=some (.cells #[.string x.name,iV x.season.op,iV x.season.n,iV x.season.u,.string x.season.rn,iV x.season.ri,.slice a0 x.season.args.length p0,iV x.cap.op,iV x.cap.n,iV x.cap.u,.string x.cap.rn,iV x.cap.ri,.slice a1 x.cap.args.length p1,iV x.start.op,iV x.start.n,iV x.start.u,.string x.start.rn,iV x.start.ri,.slice a2 x.start.args.length p2,.slice a7 Z a6,.slice H F G,.slice y m l,.slice T nfarms S,.slice (some (aV g 0)) nrots Y,.slice J nrights I,.slice R nduties P] 49 (0,0))/\V.cell? (aV g (i*23+22))=some (.slice (Ac L i).a (Ac L i).n (Ac L i).c)):=yb ⟨(dj.block _ gi.o.2).trans be.o.1,(dj.cell (p:=(aV g (i*23+22))) gi.o.1).trans be.o.2⟩
  clear e4 dj cg
  refine hK.o _ _ (λ_=>de.o) ?_
  clear hK K
  refine Az (i:=10) (v:=pV g (i*23)) rfl (by kernel_rfl) (by kernel_rfl) (by kernel_rfl) (λ_ _ _ h=>h) (by kernel_rfl) (Or.inl ⟨by rfl,?_⟩) (λ_=>de.o) ?_
  ·intro w _;go_simp
  refine Az (i:=11) (v:=pV g (i*23+22)) rfl (by kernel_rfl) (by kernel_rfl) (by kernel_rfl) (λ_ _ _ h=>h) (by kernel_rfl) (Or.inl ⟨by rfl,?_⟩) (λ_=>de.o) ?_
  ·intro w _;go_simp
  refine AO (i:=12) (by kernel_rfl) rfl (λK hK=>?_)
  have hc:=de.o.2
  have hf:=hn.o V g8.o
  go_simp
  have ee:Hid (Zs U (some (aV g 0)) N w x.rots (hs++[⟨ta,tn,tc⟩]) (V.setCell (aV g (i*23+22)) (.slice ta tn tc))):=yb (by
   obtain rfl:=ed.o
   exact ag.o.next eu.o rfl h6.o g8.o hc i0.o rfl)
  clear hc hf
  generalize V.setCell (aV g (i*23+22)) (.slice ta tn tc)=V2 at*
  refine hK.o _ _ (by intro h;cases h) ?_
  clear hK K
  refine AP (by kernel_rfl) ?_
  refine NoPanic.normal ?_
  go_wp2
  exact ⟨⟨hs++[⟨ta,tn,tc⟩],by simp;have:=ed.o;omega,by simp;have:=ed.o;omega,ee⟩,by simp[intOf];omega⟩
 have ef:i=nrots:=by omega
 have gp:decide ((i:Int) < (nrots:Int))=false:=by simp;omega
 have hz:=aa.o
 have f4:=HP.o.size
 have b8:∀b,b < W1.heap.size->some b≠Oh x.rots a8:=λb hb e=>by
  have h0:=Oi e
  obtain ⟨g,cs,ha,fm,_⟩:=ab.o.2 0 (by rw[zW];exact h0)
  simp only at ha
  rw[ha,FY h0] at e
  cases e;omega
 have d1:∀b t,Ty U b t->t≠56->some b≠Oh x.rots a8:=λb t ht cj e=>by
  have h0:=Oi e
  obtain ⟨g,cs,ha,_,cd,_⟩:=ab.o.2 0 (by rw[zW];exact h0)
  simp only at ha
  rw[ha,FY h0] at e
  cases e
  exact cj (ht.inj cd)
 have e9:∀b,N b->wr.heap[b]?=w.heap[b]?:=λb hb=>(ag.o.grown.block b (bm.o _ HP.o b hb) (b8 b (by have:=HN.o b hb;omega))).trans (bp.o _ HP.o b hb)
 have ei:wr.heap[w.heap.size]?=some (.cells #[.string x.name,iV x.season.op,iV x.season.n,iV x.season.u,.string x.season.rn,iV x.season.ri,.slice a0 x.season.args.length p0,iV x.cap.op,iV x.cap.n,iV x.cap.u,.string x.cap.rn,iV x.cap.ri,.slice a1 x.cap.args.length p1,iV x.start.op,iV x.start.n,iV x.start.u,.string x.start.rn,iV x.start.ri,.slice a2 x.start.args.length p2,.slice a7 Z a6,.slice H F G,.slice y m l,.slice T nfarms S,.slice a8 nrots Y,.slice J nrights I,.slice R nduties P] 49 (0,0)):=(ag.o.grown.block _ (by omega) (b8 _ (by omega))).trans HQ.o
 have fp:wr.heap[w.heap.size+1]?=some (.cells #[.string ⟨#[]⟩,iV 0,iV 0,iV 0,.string ⟨#[]⟩,iV 0,.slice none 0 0,iV 0,iV 0,iV 0,.string ⟨#[]⟩,iV 0,.slice none 0 0,iV 0,iV 0,iV 0,.string ⟨#[]⟩,iV 0,.slice none 0 0,.slice none 0 0,.slice none 0 0,.slice none 0 0,.slice none 0 0,.slice none 0 0,.slice none 0 0,.slice none 0 0] 49 (0,0)):=(ag.o.grown.block _ (by omega) (b8 _ (by omega))).trans ((HP.o.block _ (by omega) (λe=>by simp at e)).trans hh.o)
 have aq:∀b t,Ty U b t->t≠56->wr.heap[b]?=U.heap[b]?:=λb t ht cj=>ag.o.grown.block b ht.lt (d1 b t ht cj)
 have di:∀i (h:i < hs.length),Ac (⟨w.heap.size,⟨a7,Z,a6⟩,⟨H,F,G⟩,⟨y,m,l⟩,⟨T,nfarms,S⟩,⟨a8,nrots,Y⟩,⟨J,nrights,I⟩,⟨R,nduties,P⟩,hs⟩:BQ) i=hs[i]:=λi h=>by unfold Ac;simp[h]
 have ea:Cz (λg=>w.heap.size<=g/\g≠w.heap.size+1) (EV N wr) (RV wr) wr (⟨w.heap.size,⟨a7,Z,a6⟩,⟨H,F,G⟩,⟨y,m,l⟩,⟨T,nfarms,S⟩,⟨a8,nrots,Y⟩,⟨J,nrights,I⟩,⟨R,nduties,P⟩,hs⟩:BQ) x:=by
  refine Sc (B:=W1.heap.size) e9 (λg hg=>by omega) b0.o ei HV.o.name gn.o hm.o h8.o (E.o.upT λb _ ht=>aq b _ ht (by decide)) (C.o.upT λb _ ht=>aq b _ ht (by decide)) (A.o.upT λb _ ht=>aq b _ ht (by decide)) (X.o.upT λb _ ht=>aq b _ ht (by decide)) ?_ (ac.o.upT λb _ ht=>aq b _ ht (by decide)) (ae.o.upT λb _ ht=>aq b _ ht (by decide))
  refine VG (L:=L) (L':=(⟨w.heap.size,⟨a7,Z,a6⟩,⟨H,F,G⟩,⟨y,m,l⟩,⟨T,nfarms,S⟩,⟨a8,nrots,Y⟩,⟨J,nrights,I⟩,⟨R,nduties,P⟩,hs⟩:BQ)) e9 ab.o (λg hg=>by omega) b0.o.rots b0.o.turns (λg hg ht=>ag.o.ty g hg _ ht) (λg hg i q hq=>ag.o.cells g hg _ (λj _=>by omega)) (λk hk g hg=>?_) (λk hk=>?_)
  ·have cm:k < hs.length:=by rw[<-cl,ef,dh.o];exact hk
   rw[di k cm]
   exact (ag.o.done k cm hk).2 g hg
  have cm:k < hs.length:=by rw[<-cl,ef,dh.o];exact hk
  rw[di k cm]
  exact Iq.of (ag.o.done k cm hk).1.1 f4 (ag.o.done k cm hk).1.2
 have e5:Below w.heap.size w wr:=⟨ag.o.grown.os.trans (HP.o.os.trans cr.o.os),ag.o.grown.tape.trans (HP.o.tape.trans cr.o.tape),ag.o.grown.output.trans (HP.o.output.trans cr.o.output),by have:=ag.o.grown.size;omega,λb hb=>(ag.o.grown.block b (by omega) (b8 b (by omega))).trans ((HP.o.block b (by omega) (λe=>by cases e;omega)).trans (cr.o.block b hb))⟩
 have eo:∀b,N b->b < w.heap.size/\b < wr.heap.size:=λb hb=>⟨HN.o b hb,by have:=HN.o b hb;have:=e5.size;omega⟩
 generalize fa:(⟨w.heap.size,⟨a7,Z,a6⟩,⟨H,F,G⟩,⟨y,m,l⟩,⟨T,nfarms,S⟩,⟨a8,nrots,Y⟩,⟨J,nrights,I⟩,⟨R,nduties,P⟩,hs⟩:BQ)=Lc at ea di
 have fw:Lc.s=w.heap.size:=by rw[<-fa]
 have ej:=yb ea;have cy:=yb e5;have dd:=yb eo;have i6:=yb ei;have f3:=yb fp;have bk:=yb fw
 have gq:=yb b0.o.exprs
 clear ea e5 eo ei fp fw fa di aq e9 b8 d1 hz f4 ef cl
 iterate 2
  go_wp2
  refine Aj (Aa ?_)
 have h4:∀(fn:Fn) (first cap:Array Value) (w:World),(Instr.makeFunc fn first cap).run prog w=.ok (.func fn first cap) w:=λ_ _ _ _=>rfl
 go_wp2
 refine Aj (Aj (Aa ?_))
 go_wp2_with (first|(go_at_call 101;refine (Fy _ _).mono ?_;rintro e w2 ⟨rfl,rfl⟩))
 have dy:Below wr.heap.size wr ((wr.alloc (.cells #[.func (.func 122) #[] #[pV wr.heap.size 0]] 229)).alloc (.cells #[pV w.heap.size 0] 154)):=((yg _ _).alloc (yi _) _).alloc (by simp) _
 have et:((wr.alloc (.cells #[.func (.func 122) #[] #[pV wr.heap.size 0]] 229)).alloc (.cells #[pV w.heap.size 0] 154)).cell? (aV wr.heap.size 0)=some (.func (.func 122) #[] #[pV wr.heap.size 0]):=by
  refine qH _ ?_
  have:=World.alloc_heap_new wr (.cells #[.func (.func 122) #[] #[pV wr.heap.size 0]] 229)
  simp only[World.cell?,this];simp
 have fq:((wr.alloc (.cells #[.func (.func 122) #[] #[pV wr.heap.size 0]] 229)).alloc (.cells #[pV w.heap.size 0] 154)).cell? (aV (wr.heap.size+1) 0)=some (pV w.heap.size 0):=by
  have:=World.alloc_heap_new (wr.alloc (.cells #[.func (.func 122) #[] #[pV wr.heap.size 0]] 229)) (.cells #[pV w.heap.size 0] 154)
  rw[ze] at this
  simp only[World.cell?,this];simp
 have cc:((wr.alloc (.cells #[.func (.func 122) #[] #[pV wr.heap.size 0]] 229)).alloc (.cells #[pV w.heap.size 0] 154)).heap.size=wr.heap.size+2:=by simp
 generalize (wr.alloc (.cells #[.func (.func 122) #[] #[pV wr.heap.size 0]] 229)).alloc (.cells #[pV w.heap.size 0] 154)=W4 at*
 have d6:=yb dy;have h9:=yb et;have h7:=yb fq;have d8:=yb cc
 have dq:=ej.o.up (λb hb=>(dd.o b hb).2) dy
 have i1:=cy.o.size
 have cp:w.heap.size+2<=wr.heap.size:=by
  have h1:=(yd.1 f3.o).1
  omega
 have hA:=dq.all2 (by rw[bk.o];exact ⟨yi _,by omega⟩)
 have dv:=ej.o.all2 (by rw[bk.o];exact ⟨yi _,by omega⟩)
 have dm:Q7 N W4 Lc x:=⟨λj b o lt hp=>(J7 hA hp).2.1,λb hb=>⟨by have:=(dd.o b hb).2;omega,λj o lt hp=>by have h1:=(J7 hA hp).1.1;have h2:=(dd.o b hb).1;omega⟩,λj b o lt hp hj=>(J7 hA hp).2.2 hj⟩
 have dl:∀j b o lt,GP Lc j b o lt->w.heap.size<=b/\b < wr.heap.size:=λj b o lt hp=>⟨(J7 dv hp).1.1,(J7 dv hp).2.1.lt⟩
 have fd:=yb dq;have HA:=yb hA;have b5:=yb dm;have ch:=yb dl;have dr:=yb cp
 clear dy et fq cc dq hA dv dm dl i1 cp h4
 refine Dp ?_
 refine CW (n:=10) func96 rfl (λ_ _=>rfl) (M7 9 (by omega) (wr.heap.size+1) Lc ej.o.ok) (λa ha=>by
   obtain ⟨i,hi,rfl⟩:=zq.1 ha
   obtain ⟨b,o,h1,_⟩:=HA.o.get i hi (by rw[<-HA.o.length];exact hi)
   rw[h1];rfl)
  (Q8 W4 Lc x) (λ_ _ _=>False) (λ_ _ _=>False)
  (λk a O W=>Q8 W4 Lc x k O W/\∃(b o:Nat) (lt:Int),GP Lc k b o lt/\a={tmps:=#[.agg #[.string x.name,iV x.season.op,iV x.season.n,iV x.season.u,.string x.season.rn,iV x.season.ri,.slice a0 x.season.args.length p0,iV x.cap.op,iV x.cap.n,iV x.cap.u,.string x.cap.rn,iV x.cap.ri,.slice a1 x.cap.args.length p1,iV x.start.op,iV x.start.n,iV x.start.u,.string x.start.rn,iV x.start.ri,.slice a2 x.start.args.length p2,.slice L.lets.a L.lets.n L.lets.c,.slice L.crops.a L.crops.n L.crops.c,.slice L.reaches.a L.reaches.n L.reaches.c,.slice L.farms.a L.farms.n L.farms.c,.slice L.rots.a L.rots.n L.rots.c,.slice L.rights.a L.rights.n L.rights.c,.slice L.duties.a L.duties.n L.duties.c],pV w.heap.size 0,pV (w.heap.size+1) 0,u3,pV wr.heap.size 0,pV b o,pV w.heap.size 19,.slice L.lets.a L.lets.n L.lets.c,.slice a7 Z a6,pV w.heap.size 20,.slice L.crops.a L.crops.n L.crops.c,.slice H F G,pV w.heap.size 21,.slice L.reaches.a L.reaches.n L.reaches.c,.slice y m l,pV w.heap.size 22,.slice L.farms.a L.farms.n L.farms.c,.slice T nfarms S,pV w.heap.size 19,pV w.heap.size 20,pV w.heap.size 21,pV w.heap.size 22,pV w.heap.size 23,.slice L.rots.a L.rots.n L.rots.c,.slice a8 nrots Y,pV w.heap.size 24,.slice L.rights.a L.rights.n L.rights.c,.slice J nrights I,pV w.heap.size 25,.slice L.duties.a L.duties.n L.duties.c,.slice R nduties P,pV w.heap.size 23,pV w.heap.size 24,pV w.heap.size 25,pV w.heap.size 23,.slice a8 nrots Y,iV (nrots:Int),iV (i:Int),.bool false,u39,u40,u41,u42,u43,u44,u45,u46,u47,u48,u49,u50,u51,u52,.func (.func 122) #[] #[pV wr.heap.size 0],.func (.func 124) #[] #[pV (wr.heap.size+1) 0],pV b o,iV lt,undef,undef,undef,undef],defers:=[]})
  Q8.stays (λ_ _ _ _ _ _ h=>h.elim) (λ_ _ _ _ _ _ h=>h.elim) ?_ ?_ (λ_ _ _ h=>h.elim) (λ_ h=>by cases h) (Q8.start W4 Lc x) ?_ ?_ ?_ (λ_ _ _ _ _ _ h=>h.elim) (λ_ _ _ _ _ _ h=>h.elim)
 ·exact λa k O W O' W' h hz ho ht hu hk hO=>⟨Q8.stays k O W O' W' h.1 hz ho ht hu hk hO,h.2⟩
 ·intro k O W hJ
  refine fd.o.heads (λb q hq=>by obtain ⟨t,ty,az⟩:=hq;exact J8 b5.o hJ ty (by rw[az];decide)) ?_
  rw[bk.o,Ar (hJ.old _ (by have:=d8.o;omega) (λj o lt _ hp=>by have:=(ch.o j _ o lt hp).2;omega))]
  exact h7.o
 ·intro k hk O W lo hJ hO hl _
  obtain ⟨b,o,lt,hp⟩:=VI HA.o hk
  have he:(Cd Lc)[k]=#[pV b o,iV lt]:=by
   unfold GP at hp
   rw[yk hk] at hp
   exact yf hp
  rw[he]
  have eg:=yb hJ;have dz:=yb hp
  clear hJ hO hl hp he
  gi_wp2
  first
  |exact ⟨B7.refl _ _,eg.o,b,o,lt,dz.o,rfl⟩
  |(rename_i hK;exact hK _ _ ⟨B7.refl _ _,eg.o,b,o,lt,dz.o,rfl⟩)
  |(rename_i hK _;exact hK _ _ ⟨B7.refl _ _,eg.o,b,o,lt,dz.o,rfl⟩)
 ·rintro k hk O W lo a1 hl f6 g3 ⟨hJ,b,o,lt,hp,rfl⟩
  have eb:k < (Ba x).length:=by rw[<-HA.o.length];exact hk
  obtain ⟨M,hM,cs,hr,hv⟩:=hJ.read b5.o hp eb
  obtain ⟨t,ht,_⟩:=b5.o.epos k b o lt hp
  have hf:=ch.o k b o lt hp
  have cc:=d8.o
  have bx:W.cell? (aV wr.heap.size 0)=some (.func (.func 122) #[] #[pV wr.heap.size 0]):=(Ar (hJ.old _ (by omega) (λj o lt _ hp=>by have:=(ch.o j _ o lt hp).2;omega))).trans h9.o
  have ga:=VF M wr.heap.size (Ba x)[k].1 b o t cs W hv hr (hJ.ty b t ht) (gq.o _ (yR eb)) (λc hc=>by
   rcases hM c hc with h1|h1
   ·have h2:=(dd.o c h1);have h3:=hJ.size;omega
   omega) (by omega) bx
  have gx:=yb ga
  have ee:=yb (λw3=>Q8.next (w':=w3) b5.o hJ hp eb g3)
  clear hM hr hv ht hf cc ga hJ hp g3 hl f6
  gi_wp2_with fail
  refine ⟨trivial,zB (CallsIn.inRound lo (zi.2 gx.o)) ?_⟩
  rintro e w3 ⟨rfl,az⟩
  have fj:=yb (ee.o w3 az)
  clear az
  gi_wp2_with fail
  first
  |exact ⟨fj.o.2,fj.o.1⟩
  |fail
 rintro - D O W hD f9 hJ fy
 simp only[Exit.inBlock,Exit.then]
 have cc:=d8.o
 have cp:=dr.o
 have gm:=hJ.size
 have es:Cz (λg=>w.heap.size<=g/\g≠w.heap.size+1) (λ_ _ _ _=>True) (RV W) W Lc x:=fd.o.imp (λb t _ ht=>hJ.ty b t ht) (λb q _ hq=>by obtain ⟨t,ty,az⟩:=hq;exact J8 b5.o hJ ty (by rw[az];decide)) (λ_ _ _ _ _ _ _=>trivial) (λto r b q _ hq hr=>by
  obtain ⟨t,ty,h1,h2⟩:=hq
  exact ⟨hr.1,(J8 b5.o hJ ty (by rw[h1];decide)).trans hr.2.1,(J8 b5.o hJ ty (by rw[h2];decide)).trans hr.2.2⟩)
 have dx:=es.told (Xw (B:=λb=>w.heap.size+2<=b/\b≠D) HA.o b5.o hJ (λb hb hO=>⟨by omega,λe=>hO (e▸f9)⟩))
 have fu:Cz (λg=>w.heap.size<=g/\g≠w.heap.size+1) (EV (λg=>w.heap.size<=g/\g≠w.heap.size+1) W) (RV W) W Lc x:=dx.imp (λ_ _ _ h=>h) (λ_ _ _ _=>rfl) (λlt e b o _ _ hE=>by obtain ⟨c,h1,h2⟩:=hE;exact ⟨c,h1,h2.exV (λb hb _=>by have h3:=hb.1;exact ⟨by omega,by omega⟩)⟩) (λ_ _ _ _ _ _ h=>h)
 obtain ⟨cs,az,e7,f5⟩:=fu.srcV
 rw[bk.o] at e7
 have dn:=OV f5
 have db:∀j o lt,¬ GP Lc j (w.heap.size+1) o lt:=λj o lt hp=>(J7 HA.o hp).1.2 rfl
 have f1:W.heap[w.heap.size+1]?=some (.cells #[.string ⟨#[]⟩,iV 0,iV 0,iV 0,.string ⟨#[]⟩,iV 0,.slice none 0 0,iV 0,iV 0,iV 0,.string ⟨#[]⟩,iV 0,.slice none 0 0,iV 0,iV 0,iV 0,.string ⟨#[]⟩,iV 0,.slice none 0 0,.slice none 0 0,.slice none 0 0,.slice none 0 0,.slice none 0 0,.slice none 0 0,.slice none 0 0,.slice none 0 0] 49 (0,0)):=(hJ.old _ (by omega) (λj o lt _=>db j o lt)).trans ((d6.o.block _ (by omega)).trans f3.o)
 have el:Hid ((prog.info? 49).map (·.size)=some cs.length):=yb (by rw[az];kernel_rfl)
 have ez:Hid ((prog.info? 49).map (·.size)=some cs.toArray.size):=yb (by rw[yA];exact el.o)
 have dg:=yb az;have ev:=yb e7;have dp:=yb dn;have ft:=yb f1;have hy:=yb dx;have g5:=yb fy;have HD:=yb hD;have d2:=yb hJ
 clear es dx fu az e7 f5 dn db f1 fy hD hJ f9 cc cp gm
 refine Aj (Aa ?_)
 go_wp2_with (first|(refine yj rfl 49 _ rfl w.heap.size 0 rfl cs _ ev.o jq rfl el.o ?_)|(refine yt rfl 49 _ _ rfl (w.heap.size+1) cs.toArray rfl rfl 49 _ ft.o ez.o (by simp[dg.o]) (yL dp.o) ?_))
 refine Aa ?_
 go_wp2
 have cj:D≠w.heap.size+1:=by have:=HD.o;have:=d8.o;have:=dr.o;omega
 have h5:(W.setRow (w.heap.size+1) cs.toArray).heap[D]?=some (.deferred (some [])):=by
  simp only[World.setRow,yH,ym (xC cj)]
  exact g5.o
 have ce:∀ob b,b≠w.heap.size+1->b≠D->((W.setRow (w.heap.size+1) cs.toArray).putObj D ob).heap[b]?=W.heap[b]?:=λob b h1 h2=>by
  rw[World.putObj_heap_other h2]
  simp only[World.setRow,yH,ym (xC h1)]
 have gw:∀ob,((W.setRow (w.heap.size+1) cs.toArray).putObj D ob).heap[w.heap.size+1]?=some (.cells cs.toArray 49 (0,0)):=λob=>by
  rw[World.putObj_heap_other (xC cj)]
  simp[World.setRow,yH,ft.o]
 have gy:∀ob,((W.setRow (w.heap.size+1) cs.toArray).putObj D ob).rangeAt (w.heap.size+1) 0 cs:=λob=>by
  have:=xy (gw ob) 0 cs.length
  simpa using this
 have eh:∀ob,Og w x (.returned (.agg cs.toArray)) ((W.setRow (w.heap.size+1) cs.toArray).putObj D ob):=λob=>by
  have i2:=HD.o
  have cc:=d8.o
  have cp:=dr.o
  have dk:∀b t,b≠w.heap.size+1->Ty W b t->b≠D:=λb t _ ht e=>by
   obtain ⟨c,hc⟩:=ht
   rw[e,g5.o] at hc
   cases hc
  refine ⟨Lc,cs,rfl,dg.o,dp.o,⟨d2.o.os.trans (d6.o.os.trans cy.o.os),d2.o.tape.trans (d6.o.tape.trans cy.o.tape),d2.o.output.trans (d6.o.output.trans cy.o.output),?_,λb hb=>?_⟩,bk.o,?_,?_⟩
  ·have h1:=d2.o.size
   have h2:((W.setRow (w.heap.size+1) cs.toArray).putObj D ob).heap.size=W.heap.size:=by simp[World.setRow]
   omega
  ·rw[ce ob b (by omega) (by omega),d2.o.old b (by omega) (λj o lt _ hp=>by have:=(ch.o j b o lt hp).1;omega),d6.o.block b (by omega)]
   exact cy.o.block b hb
  ·rw[bk.o]
   exact A8 ev.o (ce ob _ (by omega) (by omega))
  refine hy.o.imp (λb t hq ht=>?_) (λb q hq hp=>?_) (λlt e b o hq hp hE=>?_) (λto r b o hq hp hr=>?_)
  ·have h1:b≠w.heap.size+1:=by rcases hq with hq|hq;exact hq.2;have:=bk.o;omega
   exact ht.same (ce ob b h1 (dk b t h1 ht))
  ·have h1:b≠w.heap.size+1:=by rcases hq with hq|hq;exact hq.2;have:=bk.o;omega
   obtain ⟨t,ty,_⟩:=hp
   exact Ar (ce ob b h1 (dk b t h1 ty))
  ·have h1:b≠w.heap.size+1:=by rcases hq with hq|hq;exact hq.2;have:=bk.o;omega
   obtain ⟨t,ty,_⟩:=hp
   obtain ⟨c,c1,c2⟩:=hE
   exact ⟨c,A8 c1 (ce ob b h1 (dk b t h1 ty)),c2.same (λb hb _=>hb.1) (λb hb _=>ce ob b (by have:=hb.1;omega) hb.2)⟩
  have h1:b≠w.heap.size+1:=by rcases hq with hq|hq;exact hq.2;have:=bk.o;omega
  obtain ⟨t,ty,_⟩:=hp
  have h2:=ce ob b h1 (dk b t h1 ty)
  exact ⟨hr.1,(Ar h2).trans hr.2.1,(Ar h2).trans hr.2.2⟩
 exact ⟨by simp,.inl ⟨_,_,rfl,run_takeDeferred h5,⟨_,OX rfl rfl (qv _ (w.heap.size+1) 0 49 cs _ (gy _) jq rfl el.o),eh _⟩⟩⟩
end Go.Proofs.YtbdfinegbjdblaaGreatDoor
