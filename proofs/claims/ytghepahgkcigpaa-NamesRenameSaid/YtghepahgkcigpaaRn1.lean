/- The program's spelt: all names are names, and no words of the grammar (printed by gen_ob.py). -/
import Derived.Test.YtghepahgkcigpaaRn0
import Derived.Deep.WholeRow
set_option maxRecDepth 100000
set_option maxHeartbeats 64000000
set_option linter.unusedSimpArgs false
namespace Go.Proofs.Ytghepahgkcigpaa
open Go.RowKit
def AW(w:World)(h:Ai)(sz j:Nat)(nms:LB):Prop:=
 h.n=nms.length∧nms.length<=140737488355328∧∀i (hi:i < nms.length),∃b o cs,h.a=some ⟨b,o,none⟩∧b < w.heap.size∧cs.length=sz∧w.rangeAt b (o+i*sz) cs∧(∀v∈cs,v.oneCell'=true)∧cs[j]?=some (.string nms[i])∧nms[i].size<=maxLen
def To:ByteArray:={data:=#[32,100,105,115,116,114,105,99,116,32,115,101,97,115,111,110,32,114,101,115,101,114,118,111,105,114,32,104,111,108,100,115,32,108,101,116,32,99,114,111,112,32,110,101,101,100,115,32,114,101,97,99,104,32,102,114,111,109,32,100,101,108,97,121,32,99,97,112,97,99,105,116,121,32,98,97,110,107,32,115,105,112,104,111,110,32,101,118,97,112,111,114,97,116,105,111,110,32,116,111,32,115,101,101,112,97,103,101,32,102,97,114,109,32,111,110,32,114,105,118,101,114,32,97,114,101,97,32,114,111,116,97,116,105,111,110,32,114,97,110,107,32,102,108,111,119,32,116,117,114,110,32,102,111,114,32,116,97,107,101,32,111,102,32,101,118,101,114,121,32,111,119,110,32,101,97,115,101,109,101,110,116,32,100,117,116,121,32,98,121,32,108,32,109,51,32,104,32,100,32,97,32]}
def R8(s:ByteArray):Bool:=Lib.contains To.data.toList ((({data:=#[32]}:ByteArray)++s)++({data:=#[32]}:ByteArray)).data.toList
def AH(s:ByteArray):Bool:=GK s.data.toList&&!R8 s
def F9(n:Int):List PanicEntry:=[{v:=.iface 38 (.int .i64 n),recovered:=false}]
def GV(w:World):Prop:=0 < w.heap.size∧∃m,w.cell? ⟨0,0,none⟩=some (.int .i64 m)
theorem GV.below{w w':World}{B:Nat}(h:GV w)(hb:Below B w w')(hB:0 < B):GV w':=by
 obtain ⟨h1,m,h2⟩:=h
 exact ⟨yr h1 hb.size,m,(hb.cell (p:=(aV 0 0)) hB).trans h2⟩
theorem ID{s:ByteArray}{b:Bool}(h:GK s.data.toList=b)(w:World)(hs:s.size<=maxLen):Calls Try.prog 69 #[.string s] w fun e w'=>e=.returned (.bool b)∧w=w':=by
 rw[<-h];exact Tn s w hs
theorem KV{s:ByteArray}{b:Bool}(h:R8 s=b)(w:World)(hg:GV w):Calls Try.prog 70 #[.string To,.string (({data:=#[32]}:ByteArray)++s++({data:=#[32]}:ByteArray))] w fun e w'=>e=.returned (.bool b)∧w'=w:=by
 obtain ⟨_,m,hm⟩:=hg
 rw[<-h]
 exact Try.strings_Contains _ _ m w (yy (by kernel_rfl)) hm
theorem Ow{s:ByteArray}(h:GK s.data.toList=true):s.size<=32:=by
 by_cases h0:0 < s.size
 ·rw[Ic h0] at h
  simp at h
  exact h.1.1
 ·omega
def DM(w:World)(ok:Bool)(e:Ending)(w':World):Prop:=Below w.heap.size w w'∧e=if ok then .returned (.tuple #[]) else .panicked (F9 170)
theorem FU(cs:LV)(nm:ByteArray)(w:World)(hl:cs.length=7)(hn:cs[0]?=some (.string nm)):
  Calls Try.prog 29 #[.agg cs.toArray] w fun e w'=>e=.returned (.string nm)∧Below w.heap.size w w':=by
 have he:cs[0]=.string nm:=(yA.1 hn).2
 go_enter Try.func29,Try.ntmps29
 go_wp2
 go_ret
 exact ⟨rfl,(yg _ _).alloc (yf _) _⟩
theorem Fa(cs:LV)(nm:ByteArray)(w:World)(hl:cs.length=7)(hn:cs[0]?=some (.string nm)):
  Calls Try.prog 31 #[.agg cs.toArray] w fun e w'=>e=.returned (.string nm)∧Below w.heap.size w w':=by
 have he:cs[0]=.string nm:=(yA.1 hn).2
 go_enter Try.func31,Try.ntmps31
 go_wp2
 go_ret
 exact ⟨rfl,(yg _ _).alloc (yf _) _⟩
theorem En(cs:LV)(nm:ByteArray)(w:World)(hl:cs.length=51)(hn:cs[0]?=some (.string nm)):
  Calls Try.prog 33 #[.agg cs.toArray] w fun e w'=>e=.returned (.string nm)∧Below w.heap.size w w':=by
 have he:cs[0]=.string nm:=(yA.1 hn).2
 go_enter Try.func33,Try.ntmps33
 go_wp2
 go_ret
 exact ⟨rfl,(yg _ _).alloc (yf _) _⟩
theorem Fb(cs:LV)(nm:ByteArray)(w:World)(hl:cs.length=12)(hn:cs[0]?=some (.string nm)):
  Calls Try.prog 35 #[.agg cs.toArray] w fun e w'=>e=.returned (.string nm)∧Below w.heap.size w w':=by
 have he:cs[0]=.string nm:=(yA.1 hn).2
 go_enter Try.func35,Try.ntmps35
 go_wp2
 go_ret
 exact ⟨rfl,(yg _ _).alloc (yf _) _⟩
theorem J9(cs:LV)(nm:ByteArray)(w:World)(hl:cs.length=23)(hn:cs[0]?=some (.string nm)):
  Calls Try.prog 37 #[.agg cs.toArray] w fun e w'=>e=.returned (.string nm)∧Below w.heap.size w w':=by
 have he:cs[0]=.string nm:=(yA.1 hn).2
 go_enter Try.func37,Try.ntmps37
 go_wp2
 go_ret
 exact ⟨rfl,(yg _ _).alloc (yf _) _⟩
theorem He(cs:LV)(nm:ByteArray)(w:World)(hl:cs.length=37)(hn:cs[1]?=some (.string nm)):
  Calls Try.prog 39 #[.agg cs.toArray] w fun e w'=>e=.returned (.string nm)∧Below w.heap.size w w':=by
 have he:cs[1]=.string nm:=(yA.1 hn).2
 go_enter Try.func39,Try.ntmps39
 go_wp2
 go_ret
 exact ⟨rfl,(yg _ _).alloc (yf _) _⟩
theorem Fc(cs:LV)(nm:ByteArray)(w:World)(hl:cs.length=11)(hn:cs[0]?=some (.string nm)):
  Calls Try.prog 41 #[.agg cs.toArray] w fun e w'=>e=.returned (.string nm)∧Below w.heap.size w w':=by
 have he:cs[0]=.string nm:=(yA.1 hn).2
 go_enter Try.func41,Try.ntmps41
 go_wp2
 go_ret
 exact ⟨rfl,(yg _ _).alloc (yf _) _⟩
theorem ER:(∀ {w:World} {h:Ai} {nms:LB},AW w h 7 0 nms->GV w->Calls Try.prog 28 #[h.v,.func (.func 29) #[] #[]] w (DM w (nms.all AH)))∧
  (∀ {w:World} {h:Ai} {nms:LB},AW w h 7 0 nms->GV w->Calls Try.prog 30 #[h.v,.func (.func 31) #[] #[]] w (DM w (nms.all AH)))∧
  (∀ {w:World} {h:Ai} {nms:LB},AW w h 51 0 nms->GV w->Calls Try.prog 32 #[h.v,.func (.func 33) #[] #[]] w (DM w (nms.all AH)))∧
  (∀ {w:World} {h:Ai} {nms:LB},AW w h 12 0 nms->GV w->Calls Try.prog 34 #[h.v,.func (.func 35) #[] #[]] w (DM w (nms.all AH)))∧
  (∀ {w:World} {h:Ai} {nms:LB},AW w h 23 0 nms->GV w->Calls Try.prog 36 #[h.v,.func (.func 37) #[] #[]] w (DM w (nms.all AH)))∧
  (∀ {w:World} {h:Ai} {nms:LB},AW w h 37 1 nms->GV w->Calls Try.prog 38 #[h.v,.func (.func 39) #[] #[]] w (DM w (nms.all AH)))∧
  (∀ {w:World} {h:Ai} {nms:LB},AW w h 11 0 nms->GV w->Calls Try.prog 40 #[h.v,.func (.func 41) #[] #[]] w (DM w (nms.all AH))):=by
 refine ⟨?_,?_,?_,?_,?_,?_,?_⟩
 all_goals
  intro w h nms hr hg
  have HR:=yb hr.2.2
  have HG:=yb hg
  have HN:=yb hr.1
  have hn47:h.n<=140737488355328:=by rw[hr.1];exact hr.2.1
  obtain ⟨ha,hn,hc⟩:=h
  unfold Ai.v
  simp only at HN HR hn47
  clear hr hg
  first|go_enter Try.func28,Try.ntmps28|go_enter Try.func30,Try.ntmps30|go_enter Try.func32,Try.ntmps32|go_enter Try.func34,Try.ntmps34|go_enter Try.func36,Try.ntmps36|go_enter Try.func38,Try.ntmps38|go_enter Try.func40,Try.ntmps40
  go_wp2
  go_loopw [9] (fun iv wr=>∃i:Nat,iv=iV i∧i<=hn∧Hid ((nms.take i).all AH=true)∧Hid (Below w.heap.size w wr)) (fun iv _=>hn - (intOf iv).toNat)
  case atStart=>exact ⟨0,rfl,yC _,by simp[yb],yb (yg _ _)⟩
  case round=>
   obtain ⟨i,rfl,hi,HA,HB⟩:=hrel
   by_cases hlt:i < hn
   ·have hil:i < nms.length:=by rw[<-HN.o];exact hlt
    obtain ⟨b,o,cs,rfl,hb,hl,hra,hone,hnm,hsz⟩:=HR.o i hil
    have HRA:=yb (A2 hra (HB.o.block b hb))
    have HOne:=yb (yV hone)
    have HLn:=yb hl
    have HNm:=yb hnm
    have hki:(i:Int) < (hn:Int):=by omega
    have HSz:=yb hsz
    have HT:Hid ((nms.take (i+1)).all AH=AH nms[i]):=yb (by
     rw[yt hil,zj,HA.o];simp)
    have HAll:Hid (AH nms[i]=false->nms.all AH=false):=yb (fun h=>by
     rw[xx];exact ⟨_,yz hil,by simp[h]⟩)
    generalize nms[i]=nm at HNm HSz HT HAll
    have HNew:Hid (∀T,(wr.alloc (.cells cs.toArray T)).rangeAt wr.heap.size 0 cs):=yb (fun T=>by
     have:=yU (World.alloc_heap_new wr (.cells cs.toArray T)) 0 cs.length
     simpa using this)
    clear hra hone hnm hl hsz
    cases hnb:GK nm.data.toList with
    |false=>
     have HNb:=yb hnb
     have HF:=yb (HAll.o (by unfold AH;rw[hnb];rfl))
     clear hnb
     go_wp2_with (first|(refine ym rfl _ _ rfl b _ rfl cs _ HRA.o (by first|exact qT|exact qU|exact qS|exact qV|exact qX|exact qZ|exact j0) (by rfl) (by rw[HLn.o];kernel_rfl) ?_)|(refine yZ rfl _ _ _ rfl wr.heap.size cs.toArray rfl rfl _ _ (World.alloc_heap_new _ _) (by rw[yD,HLn.o];kernel_rfl) (by simp[HLn.o]) HOne.o ?_;rw[World.setRow_alloc_new])|(refine ym rfl _ _ rfl wr.heap.size 0 rfl cs _ (HNew.o _) (by first|exact qT|exact qU|exact qS|exact qV|exact qX|exact qZ|exact j0) (by rfl) (by rw[HLn.o];kernel_rfl) ?_)|((first|go_at_call 29|go_at_call 31|go_at_call 33|go_at_call 35|go_at_call 37|go_at_call 39|go_at_call 41);refine Calls.mono (by first|exact FU cs nm _ HLn.o HNm.o|exact Fa cs nm _ HLn.o HNm.o|exact En cs nm _ HLn.o HNm.o|exact Fb cs nm _ HLn.o HNm.o|exact J9 cs nm _ HLn.o HNm.o|exact He cs nm _ HLn.o HNm.o|exact Fc cs nm _ HLn.o HNm.o) ?_;rintro e w2 ⟨rfl,hb2⟩;have HB2:=yb ((HB.o.alloc HB.o.size (.cells cs.toArray _)).trans (hb2.mono (by have:=HB.o.size;simp;omega)));clear hb2)|(go_at_call 69;refine (ID HNb.o _ HSz.o).mono ?_;rintro e w3 ⟨rfl,rfl⟩)|(go_at_call 50;refine (CN _ _).mono ?_;rintro e w5 ⟨rfl,rfl⟩))
     exact ⟨rfl,HB2.o,by rw[HF.o];rfl⟩
    |true=>
     have HNb:=yb hnb
     have hs32:=Ow hnb
     have hml:nm.size+2<=maxLen:=by unfold maxLen;omega
     cases hwb:R8 nm with
     |true=>
      have HWb:=yb hwb
      have HF:=yb (HAll.o (by unfold AH;rw[hnb,hwb];rfl))
      clear hnb hwb
      go_wp2_with (first|(refine ym rfl _ _ rfl b _ rfl cs _ HRA.o (by first|exact qT|exact qU|exact qS|exact qV|exact qX|exact qZ|exact j0) (by rfl) (by rw[HLn.o];kernel_rfl) ?_)|(refine yZ rfl _ _ _ rfl wr.heap.size cs.toArray rfl rfl _ _ (World.alloc_heap_new _ _) (by rw[yD,HLn.o];kernel_rfl) (by simp[HLn.o]) HOne.o ?_;rw[World.setRow_alloc_new])|(refine ym rfl _ _ rfl wr.heap.size 0 rfl cs _ (HNew.o _) (by first|exact qT|exact qU|exact qS|exact qV|exact qX|exact qZ|exact j0) (by rfl) (by rw[HLn.o];kernel_rfl) ?_)|((first|go_at_call 29|go_at_call 31|go_at_call 33|go_at_call 35|go_at_call 37|go_at_call 39|go_at_call 41);refine Calls.mono (by first|exact FU cs nm _ HLn.o HNm.o|exact Fa cs nm _ HLn.o HNm.o|exact En cs nm _ HLn.o HNm.o|exact Fb cs nm _ HLn.o HNm.o|exact J9 cs nm _ HLn.o HNm.o|exact He cs nm _ HLn.o HNm.o|exact Fc cs nm _ HLn.o HNm.o) ?_;rintro e w2 ⟨rfl,hb2⟩;have HB2:=yb ((HB.o.alloc HB.o.size (.cells cs.toArray _)).trans (hb2.mono (by have:=HB.o.size;simp;omega)));clear hb2)|(go_at_call 69;refine (ID HNb.o _ HSz.o).mono ?_;rintro e w3 ⟨rfl,rfl⟩)|(go_at_call 70;refine (KV HWb.o _ (HG.o.below HB2.o HG.o.1)).mono ?_;rintro e w4 ⟨rfl,rfl⟩)|(go_at_call 50;refine (CN _ _).mono ?_;rintro e w5 ⟨rfl,rfl⟩))
      exact ⟨rfl,HB2.o,by rw[HF.o];rfl⟩
     |false=>
      have HWb:=yb hwb
      have HT2:Hid ((nms.take (i+1)).all AH=true):=yb (by rw[HT.o];unfold AH;rw[hnb,hwb];rfl)
      clear hnb hwb
      go_wp2_with (first|(refine ym rfl _ _ rfl b _ rfl cs _ HRA.o (by first|exact qT|exact qU|exact qS|exact qV|exact qX|exact qZ|exact j0) (by rfl) (by rw[HLn.o];kernel_rfl) ?_)|(refine yZ rfl _ _ _ rfl wr.heap.size cs.toArray rfl rfl _ _ (World.alloc_heap_new _ _) (by rw[yD,HLn.o];kernel_rfl) (by simp[HLn.o]) HOne.o ?_;rw[World.setRow_alloc_new])|(refine ym rfl _ _ rfl wr.heap.size 0 rfl cs _ (HNew.o _) (by first|exact qT|exact qU|exact qS|exact qV|exact qX|exact qZ|exact j0) (by rfl) (by rw[HLn.o];kernel_rfl) ?_)|((first|go_at_call 29|go_at_call 31|go_at_call 33|go_at_call 35|go_at_call 37|go_at_call 39|go_at_call 41);refine Calls.mono (by first|exact FU cs nm _ HLn.o HNm.o|exact Fa cs nm _ HLn.o HNm.o|exact En cs nm _ HLn.o HNm.o|exact Fb cs nm _ HLn.o HNm.o|exact J9 cs nm _ HLn.o HNm.o|exact He cs nm _ HLn.o HNm.o|exact Fc cs nm _ HLn.o HNm.o) ?_;rintro e w2 ⟨rfl,hb2⟩;have HB2:=yb ((HB.o.alloc HB.o.size (.cells cs.toArray _)).trans (hb2.mono (by have:=HB.o.size;simp;omega)));clear hb2)|(go_at_call 69;refine (ID HNb.o _ HSz.o).mono ?_;rintro e w3 ⟨rfl,rfl⟩)|(go_at_call 70;refine (KV HWb.o _ (HG.o.below HB2.o HG.o.1)).mono ?_;rintro e w4 ⟨rfl,rfl⟩)|(go_at_call 50;refine (D4 _ _).mono ?_;rintro e w5 ⟨rfl,rfl⟩))
      exact ⟨⟨i+1,by push_cast;rfl,by omega,HT2,HB2⟩,by simp[intOf];omega⟩
   ·obtain rfl:i=hn:=by omega
    have hki:decide ((i:Int) < (i:Int))=false:=by simp
    have HF:Hid (nms.all AH=true):=yb (by have:=HA.o;rw[HN.o,yx] at this;exact this)
    go_wp2
    go_end0
    exact ⟨HB.o,by rw[HF.o];rfl⟩
theorem Mz{w:World}{h:Ai}{nms:LB}(hr:AW w h 7 0 nms)(hg:GV w):
  Calls Try.prog 28 #[h.v,.func (.func 29) #[] #[]] w (DM w (nms.all AH)):=ER.1 hr hg
theorem Lj{w:World}{h:Ai}{nms:LB}(hr:AW w h 7 0 nms)(hg:GV w):
  Calls Try.prog 30 #[h.v,.func (.func 31) #[] #[]] w (DM w (nms.all AH)):=ER.2.1 hr hg
theorem Kr{w:World}{h:Ai}{nms:LB}(hr:AW w h 51 0 nms)(hg:GV w):
  Calls Try.prog 32 #[h.v,.func (.func 33) #[] #[]] w (DM w (nms.all AH)):=ER.2.2.1 hr hg
theorem Lk{w:World}{h:Ai}{nms:LB}(hr:AW w h 12 0 nms)(hg:GV w):
  Calls Try.prog 34 #[h.v,.func (.func 35) #[] #[]] w (DM w (nms.all AH)):=ER.2.2.2.1 hr hg
theorem MA{w:World}{h:Ai}{nms:LB}(hr:AW w h 23 0 nms)(hg:GV w):
  Calls Try.prog 36 #[h.v,.func (.func 37) #[] #[]] w (DM w (nms.all AH)):=ER.2.2.2.2.1 hr hg
theorem Ks{w:World}{h:Ai}{nms:LB}(hr:AW w h 37 1 nms)(hg:GV w):
  Calls Try.prog 38 #[h.v,.func (.func 39) #[] #[]] w (DM w (nms.all AH)):=ER.2.2.2.2.2.1 hr hg
theorem Ll{w:World}{h:Ai}{nms:LB}(hr:AW w h 11 0 nms)(hg:GV w):
  Calls Try.prog 40 #[h.v,.func (.func 41) #[] #[]] w (DM w (nms.all AH)):=ER.2.2.2.2.2.2 hr hg
theorem FV(nm:ByteArray)(w:World):Calls Try.prog 27 #[.string nm] w fun e w'=>e=.returned (.string nm)∧Below w.heap.size w w':=by
 go_enter Try.func27,Try.ntmps27
 go_wp2
 go_ret
 exact ⟨rfl,yg _ _⟩
theorem MB{w:World}{h:Ai}{nms:LB}(hr:AW w h 1 0 nms)(hg:GV w):
  Calls Try.prog 26 #[h.v,.func (.func 27) #[] #[]] w (DM w (nms.all AH)):=by
 have HR:=yb hr.2.2
 have HG:=yb hg
 have HN:=yb hr.1
 have hn47:h.n<=140737488355328:=by rw[hr.1];exact hr.2.1
 obtain ⟨ha,hn,hc⟩:=h
 unfold Ai.v
 simp only at HN HR hn47
 clear hr hg
 go_enter Try.func26,Try.ntmps26
 go_wp2
 go_loopw [9] (fun iv wr=>∃i:Nat,iv=iV i∧i<=hn∧Hid ((nms.take i).all AH=true)∧Hid (Below w.heap.size w wr)) (fun iv _=>hn - (intOf iv).toNat)
 case atStart=>exact ⟨0,rfl,yC _,by simp[yb],yb (yg _ _)⟩
 case round=>
  obtain ⟨i,rfl,hi,HA,HB⟩:=hrel
  by_cases hlt:i < hn
  ·have hil:i < nms.length:=by rw[<-HN.o];exact hlt
   obtain ⟨b,o,cs,rfl,hb,hl,hra,hone,hnm,hsz⟩:=HR.o i hil
   have c0:wr.cell? (aV b (o+i))=some (.string nms[i]):=by
    have:=A2 hra (HB.o.block b hb) 0 _ hnm
    simpa using this
   have hki:(i:Int) < (hn:Int):=by omega
   have HSz:=yb hsz
   have HT:Hid ((nms.take (i+1)).all AH=AH nms[i]):=yb (by
    rw[yt hil,zj,HA.o];simp)
   have HAll:Hid (AH nms[i]=false->nms.all AH=false):=yb (fun h=>by
    rw[xx];exact ⟨_,yz hil,by simp[h]⟩)
   generalize nms[i]=nm at c0 HSz HT HAll
   clear hra hone hnm hl hsz
   cases hnb:GK nm.data.toList with
   |false=>
    have HNb:=yb hnb
    have HF:=yb (HAll.o (by unfold AH;rw[hnb];rfl))
    clear hnb
    go_wp2_with (first|(go_at_call 27;refine (FV nm _).mono ?_;rintro e w2 ⟨rfl,hb2⟩;have HB2:=yb (HB.o.trans (hb2.mono HB.o.size));clear hb2)|(go_at_call 69;refine (ID HNb.o _ HSz.o).mono ?_;rintro e w3 ⟨rfl,rfl⟩)|(go_at_call 50;refine (CN _ _).mono ?_;rintro e w5 ⟨rfl,rfl⟩))
    exact ⟨rfl,HB2.o,by rw[HF.o];rfl⟩
   |true=>
    have HNb:=yb hnb
    have hs32:=Ow hnb
    have hml:nm.size+2<=maxLen:=by unfold maxLen;omega
    cases hwb:R8 nm with
    |true=>
     have HWb:=yb hwb
     have HF:=yb (HAll.o (by unfold AH;rw[hnb,hwb];rfl))
     clear hnb hwb
     go_wp2_with (first|(go_at_call 27;refine (FV nm _).mono ?_;rintro e w2 ⟨rfl,hb2⟩;have HB2:=yb (HB.o.trans (hb2.mono HB.o.size));clear hb2)|(go_at_call 69;refine (ID HNb.o _ HSz.o).mono ?_;rintro e w3 ⟨rfl,rfl⟩)|(go_at_call 70;refine (KV HWb.o _ (HG.o.below HB2.o HG.o.1)).mono ?_;rintro e w4 ⟨rfl,rfl⟩)|(go_at_call 50;refine (CN _ _).mono ?_;rintro e w5 ⟨rfl,rfl⟩))
     exact ⟨rfl,HB2.o,by rw[HF.o];rfl⟩
    |false=>
     have HWb:=yb hwb
     have HT2:Hid ((nms.take (i+1)).all AH=true):=yb (by rw[HT.o];unfold AH;rw[hnb,hwb];rfl)
     clear hnb hwb
     go_wp2_with (first|(go_at_call 27;refine (FV nm _).mono ?_;rintro e w2 ⟨rfl,hb2⟩;have HB2:=yb (HB.o.trans (hb2.mono HB.o.size));clear hb2)|(go_at_call 69;refine (ID HNb.o _ HSz.o).mono ?_;rintro e w3 ⟨rfl,rfl⟩)|(go_at_call 70;refine (KV HWb.o _ (HG.o.below HB2.o HG.o.1)).mono ?_;rintro e w4 ⟨rfl,rfl⟩)|(go_at_call 50;refine (D4 _ _).mono ?_;rintro e w5 ⟨rfl,rfl⟩))
     exact ⟨⟨i+1,by push_cast;rfl,by omega,HT2,HB2⟩,by simp[intOf];omega⟩
  ·obtain rfl:i=hn:=by omega
   have hki:decide ((i:Int) < (i:Int))=false:=by simp
   have HF:Hid (nms.all AH=true):=yb (by have:=HA.o;rw[HN.o,yx] at this;exact this)
   go_wp2
   go_end0
   exact ⟨HB.o,by rw[HF.o];rfl⟩
end Go.Proofs.Ytghepahgkcigpaa
