/- The program's table: a map from names to their places, if no name stands twice (printed by gen_od.py). -/
import Derived.Test.YtjofgpfocadomaaGreatDoorUc0
import Derived.Test.YtjofgpfocadomaaGreatDoorUc1
set_option maxRecDepth 100000
set_option maxHeartbeats 64000000
set_option linter.unusedSimpArgs false
namespace Go.Proofs.YtjofgpfocadomaaGreatDoor
open Go.RowKit
theorem Hc{B M:Nat}{w w':World}(h:w.grownBy w' (some M))(hB:B<=M)(hz:B<=w.heap.size):Below B w w':=
 ⟨h.os,h.tape,h.output,h.size,fun b hb=>h.block b (by omega) (fun e=>by cases e;omega)⟩
theorem KV(w:World){ops:Array Oper}{rest:List Oper}{o:Oper}{a:Act}{Q:QT}(hg:o.guard=none)(m x v:Operand)(hop:o.op=Op.mapUpdate 137 m x v)
 (M:Nat)(nms:LB)(s:ByteArray)(hM:BT w M nms)(hm:a.eval m=.map (some M))(hx:a.eval x=.string s)(hv:a.eval v=.int .i64 (nms.length:Int))(hs:s.size<=maxLen)(hn:s∉nms)(hz:nms.length < 1000000)
 (hK:∀w',BT w' M (nms++[s])->w.grownBy w' (some M)->wpList Tryz.prog ops Q rest (a.put o.dst undef) w'):wpList Tryz.prog ops Q (o::rest) a w:=by
 refine zB hg fun K' hK'=>?_
 obtain ⟨w',hrun,r1,r2⟩:=hM.put s hs hn hz
 unfold Oper.wp
 simp[execOp,hop,hm,hx,hv,hrun,Result.andThen]
 exact hK' _ _ (hK w' r1 r2)
def Eo(w:World)(nms:LB)(e:Ending)(w':World):Prop:=Below w.heap.size w w'∧((nms.Nodup∧∃m,e=.returned (.map (some m))∧w.heap.size<=m∧BT w' m nms)∨(¬ nms.Nodup∧e=.panicked (ED 171)))
theorem KW{l:LB}{i:Nat}(h:i < l.length)(hn:(l.take i).Nodup)(hi:l[i]∉l.take i):(l.take (i+1)).Nodup:=by
 rw[yF h,List.nodup_append]
 exact ⟨hn,by simp,fun a ha b hb=>by simp at hb;subst hb;exact fun e=>hi (e▸ha)⟩
theorem MD{l:LB}{i:Nat}(h:i < l.length)(hi:l[i]∈l.take i):¬ l.Nodup:=by
 intro hn
 have h2:(l.take (i+1)).Nodup:=hn.sublist (List.take_sublist _ _)
 rw[yF h,List.nodup_append] at h2
 exact h2.2.2 _ hi _ (by simp) rfl
theorem G7:(∀ {w:World} {h:Aw} {nms:LB},Bd w h 7 0 nms->nms.length<=100000->Calls Tryz.prog 61 #[h.v,.func (.func 48) #[] #[]] w (Eo w nms))∧
  (∀ {w:World} {h:Aw} {nms:LB},Bd w h 7 0 nms->nms.length<=100000->Calls Tryz.prog 62 #[h.v,.func (.func 50) #[] #[]] w (Eo w nms))∧
  (∀ {w:World} {h:Aw} {nms:LB},Bd w h 51 0 nms->nms.length<=100000->Calls Tryz.prog 63 #[h.v,.func (.func 52) #[] #[]] w (Eo w nms))∧
  (∀ {w:World} {h:Aw} {nms:LB},Bd w h 12 0 nms->nms.length<=100000->Calls Tryz.prog 64 #[h.v,.func (.func 54) #[] #[]] w (Eo w nms))∧
  (∀ {w:World} {h:Aw} {nms:LB},Bd w h 11 0 nms->nms.length<=100000->Calls Tryz.prog 66 #[h.v,.func (.func 60) #[] #[]] w (Eo w nms)):=by
 refine ⟨?_,?_,?_,?_,?_⟩
 all_goals
  intro w h nms hr hz
  have HR:=yb hr.2.2
  have HN:=yb hr.1
  have hn47:h.n<=100000:=by rw[hr.1];exact hz
  obtain ⟨ha,hn,hc⟩:=h
  unfold Aw.v
  simp only at HN HR hn47
  clear hr hz
  have hmk:∀W:World,(Instr.makeMap 137 none).run Tryz.prog W=.ok (.map (some W.heap.size)) (W.alloc (.map #[] 0)):=fun W=>by kernel_rfl
  first|go_enter Tryz.func61,Tryz.ntmps61|go_enter Tryz.func62,Tryz.ntmps62|go_enter Tryz.func63,Tryz.ntmps63|go_enter Tryz.func64,Tryz.ntmps64|go_enter Tryz.func66,Tryz.ntmps66
  go_wp2
  go_loopw [14] (fun iv wr=>∃i:Nat,iv=iV i∧i<=hn∧Hid ((nms.take i).Nodup)∧Hid (Below w.heap.size w wr)∧Hid (BT wr w.heap.size (nms.take i))) (fun iv _=>hn - (intOf iv).toNat)
  case atStart=>exact ⟨0,rfl,yI _,by simp[yb],yb ((yg _ _).alloc (yf _) _),yb (KT w)⟩
  case round=>
   obtain ⟨i,rfl,hi,HA,HB,HM⟩:=hrel
   by_cases hlt:i < hn
   ·have hil:i < nms.length:=by rw[<-HN.o];exact hlt
    obtain ⟨b,o,cs,rfl,hb,hl,hra,hone,hnm,hsz⟩:=HR.o i hil
    have HRA:=yb (A0 hra (HB.o.block b hb))
    have HOne:=yb (zb hone)
    have HLn:=yb hl
    have HNm:=yb hnm
    have hki:(i:Int) < (hn:Int):=by omega
    have HSz:=yb hsz
    have HT:=yb (KW hil HA.o)
    have HD:=yb (MD hil)
    have HTk:=yb (yF hil)
    have HLi:Hid ((nms.take i).length=i):=yb (by rw[zg];omega)
    generalize nms[i]=nm at HNm HSz HT HD HTk
    have HNew:Hid (∀T,(wr.alloc (.cells cs.toArray T)).rangeAt wr.heap.size 0 cs):=yb (fun T=>by
     have:=zp (World.alloc_heap_new wr (.cells cs.toArray T)) 0 cs.length
     simpa using this)
    have HB1:Hid (∀T,Below w.heap.size w (wr.alloc (.cells cs.toArray T))):=yb (fun T=>HB.o.alloc HB.o.size (.cells cs.toArray T))
    have HM1:Hid (∀W,Below wr.heap.size wr W->BT W w.heap.size (nms.take i)):=yb (fun W hW=>HM.o.block (hW.block _ HM.o.lt))
    have HLe:Hid (∀T,wr.heap.size<=(wr.alloc (.cells cs.toArray T)).heap.size):=yb (fun T=>by simp)
    have HBa:Hid (∀T,Below wr.heap.size wr (wr.alloc (.cells cs.toArray T))):=yb (fun T=>(yg wr.heap.size wr).alloc (yf _) (.cells cs.toArray T))
    clear hra hone hnm hl hsz
    cases hp:D0 (nms.take i) nm with
    |some k=>
     have HF:Hid (¬ nms.Nodup):=yb (HD.o (by
      by_cases hm:nm∈nms.take i
      ·exact hm
      ·rw[Gv hm] at hp;cases hp))
     have HP:=yb hp
     clear hp
     go_wp2_with (first|(refine yj rfl _ _ rfl b _ rfl cs _ HRA.o (by first|exact j6|exact je|exact j8|exact jf|exact qJ) (by rfl) (by rw[HLn.o];kernel_rfl) ?_)|(refine ze rfl _ _ _ rfl wr.heap.size cs.toArray rfl rfl _ _ (World.alloc_heap_new _ _) (by rw[yM,HLn.o];kernel_rfl) (by simp[HLn.o]) HOne.o ?_;rw[World.setRow_alloc_new])|(refine yj rfl _ _ rfl wr.heap.size 0 rfl cs _ (HNew.o _) (by first|exact j6|exact je|exact j8|exact jf|exact qJ) (by rfl) (by rw[HLn.o];kernel_rfl) ?_)|((first|go_at_call 48|go_at_call 50|go_at_call 52|go_at_call 54|go_at_call 60);refine Calls.mono (by first|exact Fc cs nm _ HLn.o HNm.o|exact EE cs nm _ HLn.o HNm.o|exact DY cs nm _ HLn.o HNm.o|exact EF cs nm _ HLn.o HNm.o|exact EG cs nm _ HLn.o HNm.o) ?_;rintro e w2 ⟨rfl,hb2⟩;have HB2:=yb ((HB1.o _).trans (hb2.mono (yu HB.o.size (HLe.o _))));have HM2:=yb (HM1.o _ ((HBa.o _).trans (hb2.mono (HLe.o _))));have hlk:=HM2.o.look nm HSz.o;simp only[Ip,HP.o] at hlk;clear hb2)|(go_at_call 69;refine (Co _ _).mono ?_;rintro e w5 ⟨rfl,rfl⟩))
     exact ⟨rfl,HB2.o,.inr ⟨HF.o,rfl⟩⟩
    |none=>
     have HF:Hid (nm∉nms.take i):=yb (fun hm=>by
      obtain ⟨k,h1,_⟩:=Jr hm
      rw[h1] at hp;cases hp)
     have HP:=yb hp
     clear hp
     go_wp2_with (first|(refine yj rfl _ _ rfl b _ rfl cs _ HRA.o (by first|exact j6|exact je|exact j8|exact jf|exact qJ) (by rfl) (by rw[HLn.o];kernel_rfl) ?_)|(refine ze rfl _ _ _ rfl wr.heap.size cs.toArray rfl rfl _ _ (World.alloc_heap_new _ _) (by rw[yM,HLn.o];kernel_rfl) (by simp[HLn.o]) HOne.o ?_;rw[World.setRow_alloc_new])|(refine yj rfl _ _ rfl wr.heap.size 0 rfl cs _ (HNew.o _) (by first|exact j6|exact je|exact j8|exact jf|exact qJ) (by rfl) (by rw[HLn.o];kernel_rfl) ?_)|((first|go_at_call 48|go_at_call 50|go_at_call 52|go_at_call 54|go_at_call 60);refine Calls.mono (by first|exact Fc cs nm _ HLn.o HNm.o|exact EE cs nm _ HLn.o HNm.o|exact DY cs nm _ HLn.o HNm.o|exact EF cs nm _ HLn.o HNm.o|exact EG cs nm _ HLn.o HNm.o) ?_;rintro e w2 ⟨rfl,hb2⟩;have HB2:=yb ((HB1.o _).trans (hb2.mono (yu HB.o.size (HLe.o _))));have HM2:=yb (HM1.o _ ((HBa.o _).trans (hb2.mono (HLe.o _))));have hlk:=HM2.o.look nm HSz.o;simp only[Ip,HP.o] at hlk;clear hb2)|(go_at_call 69;refine (Cw _ _).mono ?_;rintro e w5 ⟨rfl,rfl⟩)|(at_mapUpdate;refine KV _ rfl _ _ _ rfl w.heap.size (nms.take i) nm HM2.o rfl rfl (by rw[HLi.o];rfl) HSz.o HF.o (by rw[HLi.o];omega) ?_;intro w6 hm6 hg6;have HM5:=yb hm6;have HB5:=yb (HB2.o.trans (Hc hg6 (yf _) HB2.o.size));clear hm6 hg6))
     exact ⟨⟨i+1,by push_cast;rfl,by omega,yb (HT.o HF.o),HB5,yb (by rw[HTk.o];exact HM5.o)⟩,by simp[intOf];omega⟩
   ·obtain rfl:i=hn:=by omega
    have hki:decide ((i:Int) < (i:Int))=false:=by simp
    have HF:Hid (nms.Nodup):=yb (by have:=HA.o;rw[HN.o,yS] at this;exact this)
    have HM9:Hid (BT wr w.heap.size nms):=yb (by have:=HM.o;rw[HN.o,yS] at this;exact this)
    go_wp2
    go_ret
    exact ⟨HB.o,.inl ⟨HF.o,_,rfl,yf _,HM9.o⟩⟩
theorem Sn{w:World}{h:Aw}{nms:LB}(hr:Bd w h 7 0 nms)(hz:nms.length<=100000):
  Calls Tryz.prog 61 #[h.v,.func (.func 48) #[] #[]] w (Eo w nms):=G7.1 hr hz
theorem Q8{w:World}{h:Aw}{nms:LB}(hr:Bd w h 7 0 nms)(hz:nms.length<=100000):
  Calls Tryz.prog 62 #[h.v,.func (.func 50) #[] #[]] w (Eo w nms):=G7.2.1 hr hz
theorem On{w:World}{h:Aw}{nms:LB}(hr:Bd w h 51 0 nms)(hz:nms.length<=100000):
  Calls Tryz.prog 63 #[h.v,.func (.func 52) #[] #[]] w (Eo w nms):=G7.2.2.1 hr hz
theorem Q9{w:World}{h:Aw}{nms:LB}(hr:Bd w h 12 0 nms)(hz:nms.length<=100000):
  Calls Tryz.prog 64 #[h.v,.func (.func 54) #[] #[]] w (Eo w nms):=G7.2.2.2.1 hr hz
theorem KX{w:World}{h:Aw}{nms:LB}(hr:Bd w h 11 0 nms)(hz:nms.length<=100000):
  Calls Tryz.prog 66 #[h.v,.func (.func 60) #[] #[]] w (Eo w nms):=G7.2.2.2.2 hr hz
theorem ME{w:World}{h:Aw}{nms:LB}(hr:Bd w h 1 0 nms)(hz:nms.length<=100000):
  Calls Tryz.prog 65 #[h.v,.func (.func 46) #[] #[]] w (Eo w nms):=by
 have HR:=yb hr.2.2
 have HN:=yb hr.1
 have hn47:h.n<=100000:=by rw[hr.1];exact hz
 obtain ⟨ha,hn,hc⟩:=h
 unfold Aw.v
 simp only at HN HR hn47
 clear hr hz
 have hmk:∀W:World,(Instr.makeMap 137 none).run Tryz.prog W=.ok (.map (some W.heap.size)) (W.alloc (.map #[] 0)):=fun W=>by kernel_rfl
 go_enter Tryz.func65,Tryz.ntmps65
 go_wp2
 go_loopw [14] (fun iv wr=>∃i:Nat,iv=iV i∧i<=hn∧Hid ((nms.take i).Nodup)∧Hid (Below w.heap.size w wr)∧Hid (BT wr w.heap.size (nms.take i))) (fun iv _=>hn - (intOf iv).toNat)
 case atStart=>exact ⟨0,rfl,yI _,by simp[yb],yb ((yg _ _).alloc (yf _) _),yb (KT w)⟩
 case round=>
  obtain ⟨i,rfl,hi,HA,HB,HM⟩:=hrel
  by_cases hlt:i < hn
  ·have hil:i < nms.length:=by rw[<-HN.o];exact hlt
   obtain ⟨b,o,cs,rfl,hb,hl,hra,hone,hnm,hsz⟩:=HR.o i hil
   have c0:wr.cell? (aV b (o+i))=some (.string nms[i]):=by
    have:=A0 hra (HB.o.block b hb) 0 _ hnm
    simpa using this
   have hki:(i:Int) < (hn:Int):=by omega
   have HSz:=yb hsz
   have HT:=yb (KW hil HA.o)
   have HD:=yb (MD hil)
   have HTk:=yb (yF hil)
   have HLi:Hid ((nms.take i).length=i):=yb (by rw[zg];omega)
   generalize nms[i]=nm at c0 HSz HT HD HTk
   have HM1:Hid (∀W,Below wr.heap.size wr W->BT W w.heap.size (nms.take i)):=yb (fun W hW=>HM.o.block (hW.block _ HM.o.lt))
   clear hra hone hnm hl hsz
   cases hp:D0 (nms.take i) nm with
   |some k=>
    have HF:Hid (¬ nms.Nodup):=yb (HD.o (by
     by_cases hm:nm∈nms.take i
     ·exact hm
     ·rw[Gv hm] at hp;cases hp))
    have HP:=yb hp
    clear hp
    go_wp2_with (first|(go_at_call 46;refine (Fe nm _).mono ?_;rintro e w2 ⟨rfl,hb2⟩;have HB2:=yb (HB.o.trans (hb2.mono HB.o.size));have HM2:=yb (HM1.o _ hb2);have hlk:=HM2.o.look nm HSz.o;simp only[Ip,HP.o] at hlk;clear hb2)|(go_at_call 69;refine (Co _ _).mono ?_;rintro e w5 ⟨rfl,rfl⟩))
    exact ⟨rfl,HB2.o,.inr ⟨HF.o,rfl⟩⟩
   |none=>
    have HF:Hid (nm∉nms.take i):=yb (fun hm=>by
     obtain ⟨k,h1,_⟩:=Jr hm
     rw[h1] at hp;cases hp)
    have HP:=yb hp
    clear hp
    go_wp2_with (first|(go_at_call 46;refine (Fe nm _).mono ?_;rintro e w2 ⟨rfl,hb2⟩;have HB2:=yb (HB.o.trans (hb2.mono HB.o.size));have HM2:=yb (HM1.o _ hb2);have hlk:=HM2.o.look nm HSz.o;simp only[Ip,HP.o] at hlk;clear hb2)|(go_at_call 69;refine (Cw _ _).mono ?_;rintro e w5 ⟨rfl,rfl⟩)|(at_mapUpdate;refine KV _ rfl _ _ _ rfl w.heap.size (nms.take i) nm HM2.o rfl rfl (by rw[HLi.o];rfl) HSz.o HF.o (by rw[HLi.o];omega) ?_;intro w6 hm6 hg6;have HM5:=yb hm6;have HB5:=yb (HB2.o.trans (Hc hg6 (yf _) HB2.o.size));clear hm6 hg6))
    exact ⟨⟨i+1,by push_cast;rfl,by omega,yb (HT.o HF.o),HB5,yb (by rw[HTk.o];exact HM5.o)⟩,by simp[intOf];omega⟩
  ·obtain rfl:i=hn:=by omega
   have hki:decide ((i:Int) < (i:Int))=false:=by simp
   have HF:Hid (nms.Nodup):=yb (by have:=HA.o;rw[HN.o,yS] at this;exact this)
   have HM9:Hid (BT wr w.heap.size nms):=yb (by have:=HM.o;rw[HN.o,yS] at this;exact this)
   go_wp2
   go_ret
   exact ⟨HB.o,.inl ⟨HF.o,_,rfl,yf _,HM9.o⟩⟩
end Go.Proofs.YtjofgpfocadomaaGreatDoor
