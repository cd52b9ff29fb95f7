/- The program's spelt: all names are names, and no words of the grammar (printed by gen_ob.py). -/
import Derived.Test.YtbdfinegbjdblaaGreatDoorWq0
import Derived.Deep.WholeRow
set_option maxRecDepth 100000
set_option maxHeartbeats 64000000
set_option linter.unusedSimpArgs false
namespace Go.Proofs.YtbdfinegbjdblaaGreatDoor
open Go.RowKit Tryz
def BH(w:World)(h:AA)(sz j:Nat)(nms:LB):Prop:=
 h.n=nms.length/\nms.length<=140737488355328/\∀i (hi:i < nms.length),∃b o cs,h.a=some ⟨b,o,none⟩/\b < w.heap.size/\cs.length=sz/\w.rangeAt b (o+i*sz) cs/\(∀v∈cs,v.oneCell'=true)/\cs[j]?=some (.string nms[i])/\nms[i].size<=maxLen
def Vv:ByteArray:={data:=#[32,100,105,115,116,114,105,99,116,32,115,101,97,115,111,110,32,114,101,115,101,114,118,111,105,114,32,104,111,108,100,115,32,108,101,116,32,99,114,111,112,32,110,101,101,100,115,32,114,101,97,99,104,32,102,114,111,109,32,100,101,108,97,121,32,99,97,112,97,99,105,116,121,32,98,97,110,107,32,115,105,112,104,111,110,32,101,118,97,112,111,114,97,116,105,111,110,32,116,111,32,115,101,101,112,97,103,101,32,102,97,114,109,32,111,110,32,114,105,118,101,114,32,97,114,101,97,32,114,111,116,97,116,105,111,110,32,114,97,110,107,32,102,108,111,119,32,116,117,114,110,32,102,111,114,32,116,97,107,101,32,111,102,32,101,118,101,114,121,32,111,119,110,32,101,97,115,101,109,101,110,116,32,100,117,116,121,32,98,121,32,108,32,109,51,32,104,32,100,32,97,32]}
def T7(s:ByteArray):Bool:=Lib.contains Vv.data.toList ((({data:=#[32]}:ByteArray)++s)++({data:=#[32]}:ByteArray)).data.toList
def AN(s:ByteArray):Bool:=GG s.data.toList&&!T7 s
def Fg(n:Int):List PanicEntry:=[{v:=.iface 34 (.int .i64 n),recovered:=false}]
def GV(w:World):Prop:=6 < w.heap.size/\∃m,w.cell? ⟨6,0,none⟩=some (.int .i64 m)
theorem GV.below{w w':World}{B:Nat}(h:GV w)(hb:Below B w w')(hB:6 < B):GV w':=by
 obtain ⟨h1,m,h2⟩:=h
 exact ⟨yx h1 hb.size,m,(hb.cell (p:=(aV 6 0)) hB).trans h2⟩
theorem J3{s:ByteArray}{b:Bool}(h:GG s.data.toList=b)(w:World)(hs:s.size<=maxLen):Calls prog 112 #[.string s] w λe w'=>e=.returned (.bool b)/\w=w':=by
 rw[<-h];exact Vu s w hs
theorem LO{s:ByteArray}{b:Bool}(h:T7 s=b)(w:World)(hg:GV w):Calls prog 113 #[.string Vv,.string (({data:=#[32]}:ByteArray)++s++({data:=#[32]}:ByteArray))] w λe w'=>e=.returned (.bool b)/\w'=w:=by
 obtain ⟨_,m,hm⟩:=hg
 rw[<-h]
 exact Tryz.strings_Contains _ _ m w (zE (by kernel_rfl)) hm
theorem PQ{s:ByteArray}(h:GG s.data.toList=true):s.size<=32:=by
 by_cases h0:0 < s.size
 ·rw[Iz h0] at h
  simp at h
  exact h.1.1
 omega
def DP(w:World)(ok:Bool)(e:Ending)(w':World):Prop:=Below w.heap.size w w'/\e=if ok then .returned (.tuple #[]) else .panicked (Fg 170)
theorem FT(cs:LV)(nm:ByteArray)(w:World)(hl:cs.length=7)(hn:cs[0]?=some (.string nm)):
  Calls prog 77 #[.agg cs.toArray] w λe w'=>e=.returned (.string nm)/\Below w.heap.size w w':=by
 have he:cs[0]=.string nm:=(yF.1 hn).2
 go_enter func77,ntmps77
 go_wp2
 go_ret
 exact ⟨rfl,(yg _ _).alloc (yi _) _⟩
theorem Fh(cs:LV)(nm:ByteArray)(w:World)(hl:cs.length=7)(hn:cs[0]?=some (.string nm)):
  Calls prog 79 #[.agg cs.toArray] w λe w'=>e=.returned (.string nm)/\Below w.heap.size w w':=by
 have he:cs[0]=.string nm:=(yF.1 hn).2
 go_enter func79,ntmps79
 go_wp2
 go_ret
 exact ⟨rfl,(yg _ _).alloc (yi _) _⟩
theorem EA(cs:LV)(nm:ByteArray)(w:World)(hl:cs.length=51)(hn:cs[0]?=some (.string nm)):
  Calls prog 81 #[.agg cs.toArray] w λe w'=>e=.returned (.string nm)/\Below w.heap.size w w':=by
 have he:cs[0]=.string nm:=(yF.1 hn).2
 go_enter func81,ntmps81
 go_wp2
 go_ret
 exact ⟨rfl,(yg _ _).alloc (yi _) _⟩
theorem Fi(cs:LV)(nm:ByteArray)(w:World)(hl:cs.length=12)(hn:cs[0]?=some (.string nm)):
  Calls prog 83 #[.agg cs.toArray] w λe w'=>e=.returned (.string nm)/\Below w.heap.size w w':=by
 have he:cs[0]=.string nm:=(yF.1 hn).2
 go_enter func83,ntmps83
 go_wp2
 go_ret
 exact ⟨rfl,(yg _ _).alloc (yi _) _⟩
theorem JF(cs:LV)(nm:ByteArray)(w:World)(hl:cs.length=23)(hn:cs[0]?=some (.string nm)):
  Calls prog 85 #[.agg cs.toArray] w λe w'=>e=.returned (.string nm)/\Below w.heap.size w w':=by
 have he:cs[0]=.string nm:=(yF.1 hn).2
 go_enter func85,ntmps85
 go_wp2
 go_ret
 exact ⟨rfl,(yg _ _).alloc (yi _) _⟩
theorem Hl(cs:LV)(nm:ByteArray)(w:World)(hl:cs.length=37)(hn:cs[1]?=some (.string nm)):
  Calls prog 87 #[.agg cs.toArray] w λe w'=>e=.returned (.string nm)/\Below w.heap.size w w':=by
 have he:cs[1]=.string nm:=(yF.1 hn).2
 go_enter func87,ntmps87
 go_wp2
 go_ret
 exact ⟨rfl,(yg _ _).alloc (yi _) _⟩
theorem Fj(cs:LV)(nm:ByteArray)(w:World)(hl:cs.length=11)(hn:cs[0]?=some (.string nm)):
  Calls prog 89 #[.agg cs.toArray] w λe w'=>e=.returned (.string nm)/\Below w.heap.size w w':=by
 have he:cs[0]=.string nm:=(yF.1 hn).2
 go_enter func89,ntmps89
 go_wp2
 go_ret
 exact ⟨rfl,(yg _ _).alloc (yi _) _⟩
theorem EY:(∀ {w:World} {h:AA} {nms:LB},BH w h 7 0 nms->GV w->Calls prog 76 #[h.v,.func (.func 77) #[] #[]] w (DP w (nms.all AN)))/\
  (∀ {w:World} {h:AA} {nms:LB},BH w h 7 0 nms->GV w->Calls prog 78 #[h.v,.func (.func 79) #[] #[]] w (DP w (nms.all AN)))/\
  (∀ {w:World} {h:AA} {nms:LB},BH w h 51 0 nms->GV w->Calls prog 80 #[h.v,.func (.func 81) #[] #[]] w (DP w (nms.all AN)))/\
  (∀ {w:World} {h:AA} {nms:LB},BH w h 12 0 nms->GV w->Calls prog 82 #[h.v,.func (.func 83) #[] #[]] w (DP w (nms.all AN)))/\
  (∀ {w:World} {h:AA} {nms:LB},BH w h 23 0 nms->GV w->Calls prog 84 #[h.v,.func (.func 85) #[] #[]] w (DP w (nms.all AN)))/\
  (∀ {w:World} {h:AA} {nms:LB},BH w h 37 1 nms->GV w->Calls prog 86 #[h.v,.func (.func 87) #[] #[]] w (DP w (nms.all AN)))/\
  (∀ {w:World} {h:AA} {nms:LB},BH w h 11 0 nms->GV w->Calls prog 88 #[h.v,.func (.func 89) #[] #[]] w (DP w (nms.all AN))):=by
 refine ⟨?_,?_,?_,?_,?_,?_,?_⟩
 all_goals
  intro w h nms hr hg
  have HR:=yb hr.2.2
  have HG:=yb hg
  have HN:=yb hr.1
  have hn47:h.n<=140737488355328:=by rw[hr.1];exact hr.2.1
  obtain ⟨ha,hn,hc⟩:=h
  unfold AA.v
  simp only at HN HR hn47
  clear hr hg
  first|go_enter func76,ntmps76|go_enter func78,ntmps78|go_enter func80,ntmps80|go_enter func82,ntmps82|go_enter func84,ntmps84|go_enter func86,ntmps86|go_enter func88,ntmps88
  go_wp2
  go_loopw [9] (λiv wr=>∃i:Nat,iv=iV i/\i<=hn/\Hid ((nms.take i).all AN=true)/\Hid (Below w.heap.size w wr)) (λiv _=>hn - (intOf iv).toNat)
  case atStart=>exact ⟨0,rfl,yC _,by simp[yb],yb (yg _ _)⟩
  obtain ⟨i,rfl,hi,HA,HB⟩:=hrel
  by_cases hlt:i < hn
  ·have hil:i < nms.length:=by rw[<-HN.o];exact hlt
   obtain ⟨b,o,cs,rfl,hb,hl,hra,hone,hnm,hsz⟩:=HR.o i hil
   have HRA:=yb (A8 hra (HB.o.block b hb))
   have HOne:=yb (yL hone)
   have HLn:=yb hl
   have HNm:=yb hnm
   have hki:(i:Int) < (hn:Int):=by omega
   have HSz:=yb hsz
   have HT:Hid ((nms.take (i+1)).all AN=AN nms[i]):=yb (by
    rw[yP hil,List.all_append,HA.o];simp)
   have HAll:Hid (AN nms[i]=false->nms.all AN=false):=yb (λh=>by
    rw[xH];exact ⟨_,yR hil,by simp[h]⟩)
   generalize nms[i]=nm at HNm HSz HT HAll
   have HNew:Hid (∀T,(wr.alloc (.cells cs.toArray T)).rangeAt wr.heap.size 0 cs):=yb (λT=>by
    have:=xy (World.alloc_heap_new wr (.cells cs.toArray T)) 0 cs.length
    simpa using this)
   clear hra hone hnm hl hsz
   cases hnb:GG nm.data.toList with
   |false=>
    have HNb:=yb hnb
    have HF:=yb (HAll.o (by unfold AN;rw[hnb];rfl))
    clear hnb
    go_wp2_with (first|(refine yj rfl _ _ rfl b _ rfl cs _ HRA.o (by first|exact qW|exact qX|exact qY|exact qZ|exact jt|exact j0|exact j1) (by rfl) (by rw[HLn.o];kernel_rfl) ?_)|(refine yt rfl _ _ _ rfl wr.heap.size cs.toArray rfl rfl _ _ (World.alloc_heap_new _ _) (by rw[yA,HLn.o];kernel_rfl) (by simp[HLn.o]) HOne.o ?_;rw[World.setRow_alloc_new])|(refine yj rfl _ _ rfl wr.heap.size 0 rfl cs _ (HNew.o _) (by first|exact qW|exact qX|exact qY|exact qZ|exact jt|exact j0|exact j1) (by rfl) (by rw[HLn.o];kernel_rfl) ?_)|((first|go_at_call 77|go_at_call 79|go_at_call 81|go_at_call 83|go_at_call 85|go_at_call 87|go_at_call 89);refine Calls.mono (by first|exact FT cs nm _ HLn.o HNm.o|exact Fh cs nm _ HLn.o HNm.o|exact EA cs nm _ HLn.o HNm.o|exact Fi cs nm _ HLn.o HNm.o|exact JF cs nm _ HLn.o HNm.o|exact Hl cs nm _ HLn.o HNm.o|exact Fj cs nm _ HLn.o HNm.o) ?_;rintro e w2 ⟨rfl,hb2⟩;have HB2:=yb ((HB.o.alloc HB.o.size (.cells cs.toArray _)).trans (hb2.mono (by have:=HB.o.size;simp;omega)));clear hb2)|(go_at_call 112;refine (J3 HNb.o _ HSz.o).mono ?_;rintro e w3 ⟨rfl,rfl⟩)|(go_at_call 98;refine (CM _ _).mono ?_;rintro e w5 ⟨rfl,rfl⟩))
    exact ⟨rfl,HB2.o,by rw[HF.o];rfl⟩
   |true=>
    have HNb:=yb hnb
    have hs32:=PQ hnb
    have hml:nm.size+2<=maxLen:=by unfold maxLen;omega
    cases hwb:T7 nm with
    |true=>
     have HWb:=yb hwb
     have HF:=yb (HAll.o (by unfold AN;rw[hnb,hwb];rfl))
     clear hnb hwb
     go_wp2_with (first|(refine yj rfl _ _ rfl b _ rfl cs _ HRA.o (by first|exact qW|exact qX|exact qY|exact qZ|exact jt|exact j0|exact j1) (by rfl) (by rw[HLn.o];kernel_rfl) ?_)|(refine yt rfl _ _ _ rfl wr.heap.size cs.toArray rfl rfl _ _ (World.alloc_heap_new _ _) (by rw[yA,HLn.o];kernel_rfl) (by simp[HLn.o]) HOne.o ?_;rw[World.setRow_alloc_new])|(refine yj rfl _ _ rfl wr.heap.size 0 rfl cs _ (HNew.o _) (by first|exact qW|exact qX|exact qY|exact qZ|exact jt|exact j0|exact j1) (by rfl) (by rw[HLn.o];kernel_rfl) ?_)|((first|go_at_call 77|go_at_call 79|go_at_call 81|go_at_call 83|go_at_call 85|go_at_call 87|go_at_call 89);refine Calls.mono (by first|exact FT cs nm _ HLn.o HNm.o|exact Fh cs nm _ HLn.o HNm.o|exact EA cs nm _ HLn.o HNm.o|exact Fi cs nm _ HLn.o HNm.o|exact JF cs nm _ HLn.o HNm.o|exact Hl cs nm _ HLn.o HNm.o|exact Fj cs nm _ HLn.o HNm.o) ?_;rintro e w2 ⟨rfl,hb2⟩;have HB2:=yb ((HB.o.alloc HB.o.size (.cells cs.toArray _)).trans (hb2.mono (by have:=HB.o.size;simp;omega)));clear hb2)|(go_at_call 112;refine (J3 HNb.o _ HSz.o).mono ?_;rintro e w3 ⟨rfl,rfl⟩)|(go_at_call 113;refine (LO HWb.o _ (HG.o.below HB2.o HG.o.1)).mono ?_;rintro e w4 ⟨rfl,rfl⟩)|(go_at_call 98;refine (CM _ _).mono ?_;rintro e w5 ⟨rfl,rfl⟩))
     exact ⟨rfl,HB2.o,by rw[HF.o];rfl⟩
    |false=>
     have HWb:=yb hwb
     have HT2:Hid ((nms.take (i+1)).all AN=true):=yb (by rw[HT.o];unfold AN;rw[hnb,hwb];rfl)
     clear hnb hwb
     go_wp2_with (first|(refine yj rfl _ _ rfl b _ rfl cs _ HRA.o (by first|exact qW|exact qX|exact qY|exact qZ|exact jt|exact j0|exact j1) (by rfl) (by rw[HLn.o];kernel_rfl) ?_)|(refine yt rfl _ _ _ rfl wr.heap.size cs.toArray rfl rfl _ _ (World.alloc_heap_new _ _) (by rw[yA,HLn.o];kernel_rfl) (by simp[HLn.o]) HOne.o ?_;rw[World.setRow_alloc_new])|(refine yj rfl _ _ rfl wr.heap.size 0 rfl cs _ (HNew.o _) (by first|exact qW|exact qX|exact qY|exact qZ|exact jt|exact j0|exact j1) (by rfl) (by rw[HLn.o];kernel_rfl) ?_)|((first|go_at_call 77|go_at_call 79|go_at_call 81|go_at_call 83|go_at_call 85|go_at_call 87|go_at_call 89);refine Calls.mono (by first|exact FT cs nm _ HLn.o HNm.o|exact Fh cs nm _ HLn.o HNm.o|exact EA cs nm _ HLn.o HNm.o|exact Fi cs nm _ HLn.o HNm.o|exact JF cs nm _ HLn.o HNm.o|exact Hl cs nm _ HLn.o HNm.o|exact Fj cs nm _ HLn.o HNm.o) ?_;rintro e w2 ⟨rfl,hb2⟩;have HB2:=yb ((HB.o.alloc HB.o.size (.cells cs.toArray _)).trans (hb2.mono (by have:=HB.o.size;simp;omega)));clear hb2)|(go_at_call 112;refine (J3 HNb.o _ HSz.o).mono ?_;rintro e w3 ⟨rfl,rfl⟩)|(go_at_call 113;refine (LO HWb.o _ (HG.o.below HB2.o HG.o.1)).mono ?_;rintro e w4 ⟨rfl,rfl⟩)|(go_at_call 98;refine (CX _ _).mono ?_;rintro e w5 ⟨rfl,rfl⟩))
     exact ⟨⟨i+1,by push_cast;rfl,by omega,HT2,HB2⟩,by simp[intOf];omega⟩
  obtain rfl:i=hn:=by omega
  have hki:decide ((i:Int) < (i:Int))=false:=by simp
  have HF:Hid (nms.all AN=true):=yb (by have:=HA.o;rw[HN.o,zA] at this;exact this)
  go_wp2
  go_end0
  exact ⟨HB.o,by rw[HF.o];rfl⟩
theorem NV{w:World}{h:AA}{nms:LB}(hr:BH w h 7 0 nms)(hg:GV w):
  Calls prog 76 #[h.v,.func (.func 77) #[] #[]] w (DP w (nms.all AN)):=EY.1 hr hg
theorem M0{w:World}{h:AA}{nms:LB}(hr:BH w h 7 0 nms)(hg:GV w):
  Calls prog 78 #[h.v,.func (.func 79) #[] #[]] w (DP w (nms.all AN)):=EY.2.1 hr hg
theorem L5{w:World}{h:AA}{nms:LB}(hr:BH w h 51 0 nms)(hg:GV w):
  Calls prog 80 #[h.v,.func (.func 81) #[] #[]] w (DP w (nms.all AN)):=EY.2.2.1 hr hg
theorem M1{w:World}{h:AA}{nms:LB}(hr:BH w h 12 0 nms)(hg:GV w):
  Calls prog 82 #[h.v,.func (.func 83) #[] #[]] w (DP w (nms.all AN)):=EY.2.2.2.1 hr hg
theorem NW{w:World}{h:AA}{nms:LB}(hr:BH w h 23 0 nms)(hg:GV w):
  Calls prog 84 #[h.v,.func (.func 85) #[] #[]] w (DP w (nms.all AN)):=EY.2.2.2.2.1 hr hg
theorem L6{w:World}{h:AA}{nms:LB}(hr:BH w h 37 1 nms)(hg:GV w):
  Calls prog 86 #[h.v,.func (.func 87) #[] #[]] w (DP w (nms.all AN)):=EY.2.2.2.2.2.1 hr hg
theorem M2{w:World}{h:AA}{nms:LB}(hr:BH w h 11 0 nms)(hg:GV w):
  Calls prog 88 #[h.v,.func (.func 89) #[] #[]] w (DP w (nms.all AN)):=EY.2.2.2.2.2.2 hr hg
theorem FU(nm:ByteArray)(w:World):Calls prog 75 #[.string nm] w λe w'=>e=.returned (.string nm)/\Below w.heap.size w w':=by
 go_enter func75,ntmps75
 go_wp2
 go_ret
 exact ⟨rfl,yg _ _⟩
theorem NX{w:World}{h:AA}{nms:LB}(hr:BH w h 1 0 nms)(hg:GV w):
  Calls prog 74 #[h.v,.func (.func 75) #[] #[]] w (DP w (nms.all AN)):=by
 have HR:=yb hr.2.2
 have HG:=yb hg
 have HN:=yb hr.1
 have hn47:h.n<=140737488355328:=by rw[hr.1];exact hr.2.1
 obtain ⟨ha,hn,hc⟩:=h
 unfold AA.v
 simp only at HN HR hn47
 clear hr hg
 go_enter func74,ntmps74
 go_wp2
 go_loopw [9] (λiv wr=>∃i:Nat,iv=iV i/\i<=hn/\Hid ((nms.take i).all AN=true)/\Hid (Below w.heap.size w wr)) (λiv _=>hn - (intOf iv).toNat)
 case atStart=>exact ⟨0,rfl,yC _,by simp[yb],yb (yg _ _)⟩
 obtain ⟨i,rfl,hi,HA,HB⟩:=hrel
 by_cases hlt:i < hn
 ·have hil:i < nms.length:=by rw[<-HN.o];exact hlt
  obtain ⟨b,o,cs,rfl,hb,hl,hra,hone,hnm,hsz⟩:=HR.o i hil
  have c0:wr.cell? (aV b (o+i))=some (.string nms[i]):=by
   have:=A8 hra (HB.o.block b hb) 0 _ hnm
   simpa using this
  have hki:(i:Int) < (hn:Int):=by omega
  have HSz:=yb hsz
  have HT:Hid ((nms.take (i+1)).all AN=AN nms[i]):=yb (by
   rw[yP hil,List.all_append,HA.o];simp)
  have HAll:Hid (AN nms[i]=false->nms.all AN=false):=yb (λh=>by
   rw[xH];exact ⟨_,yR hil,by simp[h]⟩)
  generalize nms[i]=nm at c0 HSz HT HAll
  clear hra hone hnm hl hsz
  cases hnb:GG nm.data.toList with
  |false=>
   have HNb:=yb hnb
   have HF:=yb (HAll.o (by unfold AN;rw[hnb];rfl))
   clear hnb
   go_wp2_with (first|(go_at_call 75;refine (FU nm _).mono ?_;rintro e w2 ⟨rfl,hb2⟩;have HB2:=yb (HB.o.trans (hb2.mono HB.o.size));clear hb2)|(go_at_call 112;refine (J3 HNb.o _ HSz.o).mono ?_;rintro e w3 ⟨rfl,rfl⟩)|(go_at_call 98;refine (CM _ _).mono ?_;rintro e w5 ⟨rfl,rfl⟩))
   exact ⟨rfl,HB2.o,by rw[HF.o];rfl⟩
  |true=>
   have HNb:=yb hnb
   have hs32:=PQ hnb
   have hml:nm.size+2<=maxLen:=by unfold maxLen;omega
   cases hwb:T7 nm with
   |true=>
    have HWb:=yb hwb
    have HF:=yb (HAll.o (by unfold AN;rw[hnb,hwb];rfl))
    clear hnb hwb
    go_wp2_with (first|(go_at_call 75;refine (FU nm _).mono ?_;rintro e w2 ⟨rfl,hb2⟩;have HB2:=yb (HB.o.trans (hb2.mono HB.o.size));clear hb2)|(go_at_call 112;refine (J3 HNb.o _ HSz.o).mono ?_;rintro e w3 ⟨rfl,rfl⟩)|(go_at_call 113;refine (LO HWb.o _ (HG.o.below HB2.o HG.o.1)).mono ?_;rintro e w4 ⟨rfl,rfl⟩)|(go_at_call 98;refine (CM _ _).mono ?_;rintro e w5 ⟨rfl,rfl⟩))
    exact ⟨rfl,HB2.o,by rw[HF.o];rfl⟩
   |false=>
    have HWb:=yb hwb
    have HT2:Hid ((nms.take (i+1)).all AN=true):=yb (by rw[HT.o];unfold AN;rw[hnb,hwb];rfl)
    clear hnb hwb
    go_wp2_with (first|(go_at_call 75;refine (FU nm _).mono ?_;rintro e w2 ⟨rfl,hb2⟩;have HB2:=yb (HB.o.trans (hb2.mono HB.o.size));clear hb2)|(go_at_call 112;refine (J3 HNb.o _ HSz.o).mono ?_;rintro e w3 ⟨rfl,rfl⟩)|(go_at_call 113;refine (LO HWb.o _ (HG.o.below HB2.o HG.o.1)).mono ?_;rintro e w4 ⟨rfl,rfl⟩)|(go_at_call 98;refine (CX _ _).mono ?_;rintro e w5 ⟨rfl,rfl⟩))
    exact ⟨⟨i+1,by push_cast;rfl,by omega,HT2,HB2⟩,by simp[intOf];omega⟩
 obtain rfl:i=hn:=by omega
 have hki:decide ((i:Int) < (i:Int))=false:=by simp
 have HF:Hid (nms.all AN=true):=yb (by have:=HA.o;rw[HN.o,zA] at this;exact this)
 go_wp2
 go_end0
 exact ⟨HB.o,by rw[HF.o];rfl⟩
end Go.Proofs.YtbdfinegbjdblaaGreatDoor
