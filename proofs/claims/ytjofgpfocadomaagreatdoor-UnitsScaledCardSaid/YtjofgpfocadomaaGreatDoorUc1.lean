/- The program's spelt: all names are names, and no words of the grammar (printed by gen_ob.py). -/
import Derived.Test.YtjofgpfocadomaaGreatDoorUc0
import Derived.Deep.WholeRow
set_option maxRecDepth 100000
set_option maxHeartbeats 64000000
set_option linter.unusedSimpArgs false
namespace Go.Proofs.YtjofgpfocadomaaGreatDoor
open Go.RowKit
def Bd(w:World)(h:Aw)(sz j:Nat)(nms:LB):Prop:=
 h.n=nms.length∧nms.length<=140737488355328∧∀i (hi:i < nms.length),∃b o cs,h.a=some ⟨b,o,none⟩∧b < w.heap.size∧cs.length=sz∧w.rangeAt b (o+i*sz) cs∧(∀v∈cs,v.oneCell'=true)∧cs[j]?=some (.string nms[i])∧nms[i].size<=maxLen
def Tx:ByteArray:={data:=#[32,100,105,115,116,114,105,99,116,32,115,101,97,115,111,110,32,114,101,115,101,114,118,111,105,114,32,104,111,108,100,115,32,108,101,116,32,99,114,111,112,32,110,101,101,100,115,32,114,101,97,99,104,32,102,114,111,109,32,100,101,108,97,121,32,99,97,112,97,99,105,116,121,32,98,97,110,107,32,115,105,112,104,111,110,32,101,118,97,112,111,114,97,116,105,111,110,32,116,111,32,115,101,101,112,97,103,101,32,102,97,114,109,32,111,110,32,114,105,118,101,114,32,97,114,101,97,32,114,111,116,97,116,105,111,110,32,114,97,110,107,32,102,108,111,119,32,116,117,114,110,32,102,111,114,32,116,97,107,101,32,111,102,32,101,118,101,114,121,32,111,119,110,32,101,97,115,101,109,101,110,116,32,100,117,116,121,32,98,121,32,108,32,109,51,32,104,32,100,32,97,32]}
def Rm(s:ByteArray):Bool:=Lib.contains Tx.data.toList ((({data:=#[32]}:ByteArray)++s)++({data:=#[32]}:ByteArray)).data.toList
def Au(s:ByteArray):Bool:=G3 s.data.toList&&!Rm s
def ED(n:Int):List PanicEntry:=[{v:=.iface 40 (.int .i64 n),recovered:=false}]
def GV(w:World):Prop:=6 < w.heap.size∧∃m,w.cell? ⟨6,0,none⟩=some (.int .i64 m)
theorem GV.below{w w':World}{B:Nat}(h:GV w)(hb:Below B w w')(hB:6 < B):GV w':=by
 obtain ⟨h1,m,h2⟩:=h
 exact ⟨yt h1 hb.size,m,(hb.cell (p:=(aV 6 0)) hB).trans h2⟩
theorem Hz{s:ByteArray}{b:Bool}(h:G3 s.data.toList=b)(w:World)(hs:s.size<=maxLen):Calls Tryz.prog 80 #[.string s] w fun e w'=>e=.returned (.bool b)∧w=w':=by
 rw[<-h];exact Tw s w hs
theorem Ky{s:ByteArray}{b:Bool}(h:Rm s=b)(w:World)(hg:GV w):Calls Tryz.prog 81 #[.string Tx,.string (({data:=#[32]}:ByteArray)++s++({data:=#[32]}:ByteArray))] w fun e w'=>e=.returned (.bool b)∧w'=w:=by
 obtain ⟨_,m,hm⟩:=hg
 rw[<-h]
 exact Tryz.strings_Contains _ _ m w (yR (by kernel_rfl)) hm
theorem Oe{s:ByteArray}(h:G3 s.data.toList=true):s.size<=32:=by
 by_cases h0:0 < s.size
 ·rw[H4 h0] at h
  simp at h
  exact h.1.1
 ·omega
def Dg(w:World)(ok:Bool)(e:Ending)(w':World):Prop:=Below w.heap.size w w'∧e=if ok then .returned (.tuple #[]) else .panicked (ED 170)
theorem Fc(cs:LV)(nm:ByteArray)(w:World)(hl:cs.length=7)(hn:cs[0]?=some (.string nm)):
  Calls Tryz.prog 48 #[.agg cs.toArray] w fun e w'=>e=.returned (.string nm)∧Below w.heap.size w w':=by
 have he:cs[0]=.string nm:=(yx.1 hn).2
 go_enter Tryz.func48,Tryz.ntmps48
 go_wp2
 go_ret
 exact ⟨rfl,(yg _ _).alloc (yf _) _⟩
theorem EE(cs:LV)(nm:ByteArray)(w:World)(hl:cs.length=7)(hn:cs[0]?=some (.string nm)):
  Calls Tryz.prog 50 #[.agg cs.toArray] w fun e w'=>e=.returned (.string nm)∧Below w.heap.size w w':=by
 have he:cs[0]=.string nm:=(yx.1 hn).2
 go_enter Tryz.func50,Tryz.ntmps50
 go_wp2
 go_ret
 exact ⟨rfl,(yg _ _).alloc (yf _) _⟩
theorem DY(cs:LV)(nm:ByteArray)(w:World)(hl:cs.length=51)(hn:cs[0]?=some (.string nm)):
  Calls Tryz.prog 52 #[.agg cs.toArray] w fun e w'=>e=.returned (.string nm)∧Below w.heap.size w w':=by
 have he:cs[0]=.string nm:=(yx.1 hn).2
 go_enter Tryz.func52,Tryz.ntmps52
 go_wp2
 go_ret
 exact ⟨rfl,(yg _ _).alloc (yf _) _⟩
theorem EF(cs:LV)(nm:ByteArray)(w:World)(hl:cs.length=12)(hn:cs[0]?=some (.string nm)):
  Calls Tryz.prog 54 #[.agg cs.toArray] w fun e w'=>e=.returned (.string nm)∧Below w.heap.size w w':=by
 have he:cs[0]=.string nm:=(yx.1 hn).2
 go_enter Tryz.func54,Tryz.ntmps54
 go_wp2
 go_ret
 exact ⟨rfl,(yg _ _).alloc (yf _) _⟩
theorem Iz(cs:LV)(nm:ByteArray)(w:World)(hl:cs.length=23)(hn:cs[0]?=some (.string nm)):
  Calls Tryz.prog 56 #[.agg cs.toArray] w fun e w'=>e=.returned (.string nm)∧Below w.heap.size w w':=by
 have he:cs[0]=.string nm:=(yx.1 hn).2
 go_enter Tryz.func56,Tryz.ntmps56
 go_wp2
 go_ret
 exact ⟨rfl,(yg _ _).alloc (yf _) _⟩
theorem Gs(cs:LV)(nm:ByteArray)(w:World)(hl:cs.length=37)(hn:cs[1]?=some (.string nm)):
  Calls Tryz.prog 58 #[.agg cs.toArray] w fun e w'=>e=.returned (.string nm)∧Below w.heap.size w w':=by
 have he:cs[1]=.string nm:=(yx.1 hn).2
 go_enter Tryz.func58,Tryz.ntmps58
 go_wp2
 go_ret
 exact ⟨rfl,(yg _ _).alloc (yf _) _⟩
theorem EG(cs:LV)(nm:ByteArray)(w:World)(hl:cs.length=11)(hn:cs[0]?=some (.string nm)):
  Calls Tryz.prog 60 #[.agg cs.toArray] w fun e w'=>e=.returned (.string nm)∧Below w.heap.size w w':=by
 have he:cs[0]=.string nm:=(yx.1 hn).2
 go_enter Tryz.func60,Tryz.ntmps60
 go_wp2
 go_ret
 exact ⟨rfl,(yg _ _).alloc (yf _) _⟩
theorem Ej:(∀ {w:World} {h:Aw} {nms:LB},Bd w h 7 0 nms->GV w->Calls Tryz.prog 47 #[h.v,.func (.func 48) #[] #[]] w (Dg w (nms.all Au)))∧
  (∀ {w:World} {h:Aw} {nms:LB},Bd w h 7 0 nms->GV w->Calls Tryz.prog 49 #[h.v,.func (.func 50) #[] #[]] w (Dg w (nms.all Au)))∧
  (∀ {w:World} {h:Aw} {nms:LB},Bd w h 51 0 nms->GV w->Calls Tryz.prog 51 #[h.v,.func (.func 52) #[] #[]] w (Dg w (nms.all Au)))∧
  (∀ {w:World} {h:Aw} {nms:LB},Bd w h 12 0 nms->GV w->Calls Tryz.prog 53 #[h.v,.func (.func 54) #[] #[]] w (Dg w (nms.all Au)))∧
  (∀ {w:World} {h:Aw} {nms:LB},Bd w h 23 0 nms->GV w->Calls Tryz.prog 55 #[h.v,.func (.func 56) #[] #[]] w (Dg w (nms.all Au)))∧
  (∀ {w:World} {h:Aw} {nms:LB},Bd w h 37 1 nms->GV w->Calls Tryz.prog 57 #[h.v,.func (.func 58) #[] #[]] w (Dg w (nms.all Au)))∧
  (∀ {w:World} {h:Aw} {nms:LB},Bd w h 11 0 nms->GV w->Calls Tryz.prog 59 #[h.v,.func (.func 60) #[] #[]] w (Dg w (nms.all Au))):=by
 refine ⟨?_,?_,?_,?_,?_,?_,?_⟩
 all_goals
  intro w h nms hr hg
  have HR:=yb hr.2.2
  have HG:=yb hg
  have HN:=yb hr.1
  have hn47:h.n<=140737488355328:=by rw[hr.1];exact hr.2.1
  obtain ⟨ha,hn,hc⟩:=h
  unfold Aw.v
  simp only at HN HR hn47
  clear hr hg
  first|go_enter Tryz.func47,Tryz.ntmps47|go_enter Tryz.func49,Tryz.ntmps49|go_enter Tryz.func51,Tryz.ntmps51|go_enter Tryz.func53,Tryz.ntmps53|go_enter Tryz.func55,Tryz.ntmps55|go_enter Tryz.func57,Tryz.ntmps57|go_enter Tryz.func59,Tryz.ntmps59
  go_wp2
  go_loopw [9] (fun iv wr=>∃i:Nat,iv=iV i∧i<=hn∧Hid ((nms.take i).all Au=true)∧Hid (Below w.heap.size w wr)) (fun iv _=>hn - (intOf iv).toNat)
  case atStart=>exact ⟨0,rfl,yI _,by simp[yb],yb (yg _ _)⟩
  case round=>
   obtain ⟨i,rfl,hi,HA,HB⟩:=hrel
   by_cases hlt:i < hn
   ·have hil:i < nms.length:=by rw[<-HN.o];exact hlt
    obtain ⟨b,o,cs,rfl,hb,hl,hra,hone,hnm,hsz⟩:=HR.o i hil
    have HRA:=yb (A0 hra (HB.o.block b hb))
    have HOne:=yb (zb hone)
    have HLn:=yb hl
    have HNm:=yb hnm
    have hki:(i:Int) < (hn:Int):=by omega
    have HSz:=yb hsz
    have HT:Hid ((nms.take (i+1)).all Au=Au nms[i]):=yb (by
     rw[yF hil,xv,HA.o];simp)
    have HAll:Hid (Au nms[i]=false->nms.all Au=false):=yb (fun h=>by
     rw[xu];exact ⟨_,yJ hil,by simp[h]⟩)
    generalize nms[i]=nm at HNm HSz HT HAll
    have HNew:Hid (∀T,(wr.alloc (.cells cs.toArray T)).rangeAt wr.heap.size 0 cs):=yb (fun T=>by
     have:=zp (World.alloc_heap_new wr (.cells cs.toArray T)) 0 cs.length
     simpa using this)
    clear hra hone hnm hl hsz
    cases hnb:G3 nm.data.toList with
    |false=>
     have HNb:=yb hnb
     have HF:=yb (HAll.o (by unfold Au;rw[hnb];rfl))
     clear hnb
     go_wp2_with (first|(refine yj rfl _ _ rfl b _ rfl cs _ HRA.o (by first|exact j6|exact je|exact j8|exact jf|exact qH|exact qI|exact qJ) (by rfl) (by rw[HLn.o];kernel_rfl) ?_)|(refine ze rfl _ _ _ rfl wr.heap.size cs.toArray rfl rfl _ _ (World.alloc_heap_new _ _) (by rw[yM,HLn.o];kernel_rfl) (by simp[HLn.o]) HOne.o ?_;rw[World.setRow_alloc_new])|(refine yj rfl _ _ rfl wr.heap.size 0 rfl cs _ (HNew.o _) (by first|exact j6|exact je|exact j8|exact jf|exact qH|exact qI|exact qJ) (by rfl) (by rw[HLn.o];kernel_rfl) ?_)|((first|go_at_call 48|go_at_call 50|go_at_call 52|go_at_call 54|go_at_call 56|go_at_call 58|go_at_call 60);refine Calls.mono (by first|exact Fc cs nm _ HLn.o HNm.o|exact EE cs nm _ HLn.o HNm.o|exact DY cs nm _ HLn.o HNm.o|exact EF cs nm _ HLn.o HNm.o|exact Iz cs nm _ HLn.o HNm.o|exact Gs cs nm _ HLn.o HNm.o|exact EG cs nm _ HLn.o HNm.o) ?_;rintro e w2 ⟨rfl,hb2⟩;have HB2:=yb ((HB.o.alloc HB.o.size (.cells cs.toArray _)).trans (hb2.mono (by have:=HB.o.size;simp;omega)));clear hb2)|(go_at_call 80;refine (Hz HNb.o _ HSz.o).mono ?_;rintro e w3 ⟨rfl,rfl⟩)|(go_at_call 69;refine (Co _ _).mono ?_;rintro e w5 ⟨rfl,rfl⟩))
     exact ⟨rfl,HB2.o,by rw[HF.o];rfl⟩
    |true=>
     have HNb:=yb hnb
     have hs32:=Oe hnb
     have hml:nm.size+2<=maxLen:=by unfold maxLen;omega
     cases hwb:Rm nm with
     |true=>
      have HWb:=yb hwb
      have HF:=yb (HAll.o (by unfold Au;rw[hnb,hwb];rfl))
      clear hnb hwb
      go_wp2_with (first|(refine yj rfl _ _ rfl b _ rfl cs _ HRA.o (by first|exact j6|exact je|exact j8|exact jf|exact qH|exact qI|exact qJ) (by rfl) (by rw[HLn.o];kernel_rfl) ?_)|(refine ze rfl _ _ _ rfl wr.heap.size cs.toArray rfl rfl _ _ (World.alloc_heap_new _ _) (by rw[yM,HLn.o];kernel_rfl) (by simp[HLn.o]) HOne.o ?_;rw[World.setRow_alloc_new])|(refine yj rfl _ _ rfl wr.heap.size 0 rfl cs _ (HNew.o _) (by first|exact j6|exact je|exact j8|exact jf|exact qH|exact qI|exact qJ) (by rfl) (by rw[HLn.o];kernel_rfl) ?_)|((first|go_at_call 48|go_at_call 50|go_at_call 52|go_at_call 54|go_at_call 56|go_at_call 58|go_at_call 60);refine Calls.mono (by first|exact Fc cs nm _ HLn.o HNm.o|exact EE cs nm _ HLn.o HNm.o|exact DY cs nm _ HLn.o HNm.o|exact EF cs nm _ HLn.o HNm.o|exact Iz cs nm _ HLn.o HNm.o|exact Gs cs nm _ HLn.o HNm.o|exact EG cs nm _ HLn.o HNm.o) ?_;rintro e w2 ⟨rfl,hb2⟩;have HB2:=yb ((HB.o.alloc HB.o.size (.cells cs.toArray _)).trans (hb2.mono (by have:=HB.o.size;simp;omega)));clear hb2)|(go_at_call 80;refine (Hz HNb.o _ HSz.o).mono ?_;rintro e w3 ⟨rfl,rfl⟩)|(go_at_call 81;refine (Ky HWb.o _ (HG.o.below HB2.o HG.o.1)).mono ?_;rintro e w4 ⟨rfl,rfl⟩)|(go_at_call 69;refine (Co _ _).mono ?_;rintro e w5 ⟨rfl,rfl⟩))
      exact ⟨rfl,HB2.o,by rw[HF.o];rfl⟩
     |false=>
      have HWb:=yb hwb
      have HT2:Hid ((nms.take (i+1)).all Au=true):=yb (by rw[HT.o];unfold Au;rw[hnb,hwb];rfl)
      clear hnb hwb
      go_wp2_with (first|(refine yj rfl _ _ rfl b _ rfl cs _ HRA.o (by first|exact j6|exact je|exact j8|exact jf|exact qH|exact qI|exact qJ) (by rfl) (by rw[HLn.o];kernel_rfl) ?_)|(refine ze rfl _ _ _ rfl wr.heap.size cs.toArray rfl rfl _ _ (World.alloc_heap_new _ _) (by rw[yM,HLn.o];kernel_rfl) (by simp[HLn.o]) HOne.o ?_;rw[World.setRow_alloc_new])|(refine yj rfl _ _ rfl wr.heap.size 0 rfl cs _ (HNew.o _) (by first|exact j6|exact je|exact j8|exact jf|exact qH|exact qI|exact qJ) (by rfl) (by rw[HLn.o];kernel_rfl) ?_)|((first|go_at_call 48|go_at_call 50|go_at_call 52|go_at_call 54|go_at_call 56|go_at_call 58|go_at_call 60);refine Calls.mono (by first|exact Fc cs nm _ HLn.o HNm.o|exact EE cs nm _ HLn.o HNm.o|exact DY cs nm _ HLn.o HNm.o|exact EF cs nm _ HLn.o HNm.o|exact Iz cs nm _ HLn.o HNm.o|exact Gs cs nm _ HLn.o HNm.o|exact EG cs nm _ HLn.o HNm.o) ?_;rintro e w2 ⟨rfl,hb2⟩;have HB2:=yb ((HB.o.alloc HB.o.size (.cells cs.toArray _)).trans (hb2.mono (by have:=HB.o.size;simp;omega)));clear hb2)|(go_at_call 80;refine (Hz HNb.o _ HSz.o).mono ?_;rintro e w3 ⟨rfl,rfl⟩)|(go_at_call 81;refine (Ky HWb.o _ (HG.o.below HB2.o HG.o.1)).mono ?_;rintro e w4 ⟨rfl,rfl⟩)|(go_at_call 69;refine (Cw _ _).mono ?_;rintro e w5 ⟨rfl,rfl⟩))
      exact ⟨⟨i+1,by push_cast;rfl,by omega,HT2,HB2⟩,by simp[intOf];omega⟩
   ·obtain rfl:i=hn:=by omega
    have hki:decide ((i:Int) < (i:Int))=false:=by simp
    have HF:Hid (nms.all Au=true):=yb (by have:=HA.o;rw[HN.o,yS] at this;exact this)
    go_wp2
    go_end0
    exact ⟨HB.o,by rw[HF.o];rfl⟩
theorem Ms{w:World}{h:Aw}{nms:LB}(hr:Bd w h 7 0 nms)(hg:GV w):
  Calls Tryz.prog 47 #[h.v,.func (.func 48) #[] #[]] w (Dg w (nms.all Au)):=Ej.1 hr hg
theorem KL{w:World}{h:Aw}{nms:LB}(hr:Bd w h 7 0 nms)(hg:GV w):
  Calls Tryz.prog 49 #[h.v,.func (.func 50) #[] #[]] w (Dg w (nms.all Au)):=Ej.2.1 hr hg
theorem JQ{w:World}{h:Aw}{nms:LB}(hr:Bd w h 51 0 nms)(hg:GV w):
  Calls Tryz.prog 51 #[h.v,.func (.func 52) #[] #[]] w (Dg w (nms.all Au)):=Ej.2.2.1 hr hg
theorem KM{w:World}{h:Aw}{nms:LB}(hr:Bd w h 12 0 nms)(hg:GV w):
  Calls Tryz.prog 53 #[h.v,.func (.func 54) #[] #[]] w (Dg w (nms.all Au)):=Ej.2.2.2.1 hr hg
theorem Mt{w:World}{h:Aw}{nms:LB}(hr:Bd w h 23 0 nms)(hg:GV w):
  Calls Tryz.prog 55 #[h.v,.func (.func 56) #[] #[]] w (Dg w (nms.all Au)):=Ej.2.2.2.2.1 hr hg
theorem JR{w:World}{h:Aw}{nms:LB}(hr:Bd w h 37 1 nms)(hg:GV w):
  Calls Tryz.prog 57 #[h.v,.func (.func 58) #[] #[]] w (Dg w (nms.all Au)):=Ej.2.2.2.2.2.1 hr hg
theorem KN{w:World}{h:Aw}{nms:LB}(hr:Bd w h 11 0 nms)(hg:GV w):
  Calls Tryz.prog 59 #[h.v,.func (.func 60) #[] #[]] w (Dg w (nms.all Au)):=Ej.2.2.2.2.2.2 hr hg
theorem Fe(nm:ByteArray)(w:World):Calls Tryz.prog 46 #[.string nm] w fun e w'=>e=.returned (.string nm)∧Below w.heap.size w w':=by
 go_enter Tryz.func46,Tryz.ntmps46
 go_wp2
 go_ret
 exact ⟨rfl,yg _ _⟩
theorem Mu{w:World}{h:Aw}{nms:LB}(hr:Bd w h 1 0 nms)(hg:GV w):
  Calls Tryz.prog 45 #[h.v,.func (.func 46) #[] #[]] w (Dg w (nms.all Au)):=by
 have HR:=yb hr.2.2
 have HG:=yb hg
 have HN:=yb hr.1
 have hn47:h.n<=140737488355328:=by rw[hr.1];exact hr.2.1
 obtain ⟨ha,hn,hc⟩:=h
 unfold Aw.v
 simp only at HN HR hn47
 clear hr hg
 go_enter Tryz.func45,Tryz.ntmps45
 go_wp2
 go_loopw [9] (fun iv wr=>∃i:Nat,iv=iV i∧i<=hn∧Hid ((nms.take i).all Au=true)∧Hid (Below w.heap.size w wr)) (fun iv _=>hn - (intOf iv).toNat)
 case atStart=>exact ⟨0,rfl,yI _,by simp[yb],yb (yg _ _)⟩
 case round=>
  obtain ⟨i,rfl,hi,HA,HB⟩:=hrel
  by_cases hlt:i < hn
  ·have hil:i < nms.length:=by rw[<-HN.o];exact hlt
   obtain ⟨b,o,cs,rfl,hb,hl,hra,hone,hnm,hsz⟩:=HR.o i hil
   have c0:wr.cell? (aV b (o+i))=some (.string nms[i]):=by
    have:=A0 hra (HB.o.block b hb) 0 _ hnm
    simpa using this
   have hki:(i:Int) < (hn:Int):=by omega
   have HSz:=yb hsz
   have HT:Hid ((nms.take (i+1)).all Au=Au nms[i]):=yb (by
    rw[yF hil,xv,HA.o];simp)
   have HAll:Hid (Au nms[i]=false->nms.all Au=false):=yb (fun h=>by
    rw[xu];exact ⟨_,yJ hil,by simp[h]⟩)
   generalize nms[i]=nm at c0 HSz HT HAll
   clear hra hone hnm hl hsz
   cases hnb:G3 nm.data.toList with
   |false=>
    have HNb:=yb hnb
    have HF:=yb (HAll.o (by unfold Au;rw[hnb];rfl))
    clear hnb
    go_wp2_with (first|(go_at_call 46;refine (Fe nm _).mono ?_;rintro e w2 ⟨rfl,hb2⟩;have HB2:=yb (HB.o.trans (hb2.mono HB.o.size));clear hb2)|(go_at_call 80;refine (Hz HNb.o _ HSz.o).mono ?_;rintro e w3 ⟨rfl,rfl⟩)|(go_at_call 69;refine (Co _ _).mono ?_;rintro e w5 ⟨rfl,rfl⟩))
    exact ⟨rfl,HB2.o,by rw[HF.o];rfl⟩
   |true=>
    have HNb:=yb hnb
    have hs32:=Oe hnb
    have hml:nm.size+2<=maxLen:=by unfold maxLen;omega
    cases hwb:Rm nm with
    |true=>
     have HWb:=yb hwb
     have HF:=yb (HAll.o (by unfold Au;rw[hnb,hwb];rfl))
     clear hnb hwb
     go_wp2_with (first|(go_at_call 46;refine (Fe nm _).mono ?_;rintro e w2 ⟨rfl,hb2⟩;have HB2:=yb (HB.o.trans (hb2.mono HB.o.size));clear hb2)|(go_at_call 80;refine (Hz HNb.o _ HSz.o).mono ?_;rintro e w3 ⟨rfl,rfl⟩)|(go_at_call 81;refine (Ky HWb.o _ (HG.o.below HB2.o HG.o.1)).mono ?_;rintro e w4 ⟨rfl,rfl⟩)|(go_at_call 69;refine (Co _ _).mono ?_;rintro e w5 ⟨rfl,rfl⟩))
     exact ⟨rfl,HB2.o,by rw[HF.o];rfl⟩
    |false=>
     have HWb:=yb hwb
     have HT2:Hid ((nms.take (i+1)).all Au=true):=yb (by rw[HT.o];unfold Au;rw[hnb,hwb];rfl)
     clear hnb hwb
     go_wp2_with (first|(go_at_call 46;refine (Fe nm _).mono ?_;rintro e w2 ⟨rfl,hb2⟩;have HB2:=yb (HB.o.trans (hb2.mono HB.o.size));clear hb2)|(go_at_call 80;refine (Hz HNb.o _ HSz.o).mono ?_;rintro e w3 ⟨rfl,rfl⟩)|(go_at_call 81;refine (Ky HWb.o _ (HG.o.below HB2.o HG.o.1)).mono ?_;rintro e w4 ⟨rfl,rfl⟩)|(go_at_call 69;refine (Cw _ _).mono ?_;rintro e w5 ⟨rfl,rfl⟩))
     exact ⟨⟨i+1,by push_cast;rfl,by omega,HT2,HB2⟩,by simp[intOf];omega⟩
  ·obtain rfl:i=hn:=by omega
   have hki:decide ((i:Int) < (i:Int))=false:=by simp
   have HF:Hid (nms.all Au=true):=yb (by have:=HA.o;rw[HN.o,yS] at this;exact this)
   go_wp2
   go_end0
   exact ⟨HB.o,by rw[HF.o];rfl⟩
end Go.Proofs.YtjofgpfocadomaaGreatDoor
