/- The program's table: a map from names to their places, if no name stands twice (printed by gen_od.py). -/
import Derived.Test.YtbdfinegbjdblaaGreatDoorWq0
import Derived.Test.YtbdfinegbjdblaaGreatDoorWq1
set_option maxRecDepth 100000
set_option maxHeartbeats 64000000
set_option linter.unusedSimpArgs false
namespace Go.Proofs.YtbdfinegbjdblaaGreatDoor
open Go.RowKit Tryz
theorem IC{B M:Nat}{w w':World}(h:w.grownBy w' (some M))(hB:B<=M)(hz:B<=w.heap.size):Below B w w':=
 ⟨h.os,h.tape,h.output,h.size,λb hb=>h.block b (by omega) (λe=>by cases e;omega)⟩
theorem Me(w:World){ops:Array Oper}{rest:List Oper}{o:Oper}{a:Act}{Q:QT}(hg:o.guard=none)(m x v:Operand)(hop:o.op=Op.mapUpdate 194 m x v)
 (M:Nat)(nms:LB)(s:ByteArray)(hM:Cl w M nms)(hm:a.eval m=.map (some M))(hx:a.eval x=.string s)(hv:a.eval v=.int .i64 (nms.length:Int))(hs:s.size<=maxLen)(hn:s∉nms)(hz:nms.length < 1000000)
 (hK:∀w',Cl w' M (nms++[s])->w.grownBy w' (some M)->wpList prog ops Q rest (a.put o.dst undef) w'):wpList prog ops Q (o::rest) a w:=by
 refine yZ hg λK' hK'=>?_
 obtain ⟨w',hrun,r1,r2⟩:=hM.put s hs hn hz
 unfold Oper.wp
 simp[execOp,hop,hm,hx,hv,hrun,Result.andThen]
 exact hK' _ _ (hK w' r1 r2)
def F3(w:World)(nms:LB)(e:Ending)(w':World):Prop:=Below w.heap.size w w'/\((nms.Nodup/\∃m,e=.returned (.map (some m))/\w.heap.size<=m/\Cl w' m nms)\/(¬ nms.Nodup/\e=.panicked (Fg 171)))
theorem Mf{l:LB}{i:Nat}(h:i < l.length)(hn:(l.take i).Nodup)(hi:l[i]∉l.take i):(l.take (i+1)).Nodup:=by
 rw[yP h,List.nodup_append]
 exact ⟨hn,by simp,λa ha b hb=>by simp at hb;subst hb;exact λe=>hi (e▸ha)⟩
theorem O8{l:LB}{i:Nat}(h:i < l.length)(hi:l[i]∈l.take i):¬ l.Nodup:=by
 intro hn
 have h2:(l.take (i+1)).Nodup:=hn.sublist (List.take_sublist _ _)
 rw[yP h,List.nodup_append] at h2
 exact h2.2.2 _ hi _ (by simp) rfl
theorem GL:(∀ {w:World} {h:AA} {nms:LB},BH w h 7 0 nms->nms.length<=100000->Calls prog 90 #[h.v,.func (.func 77) #[] #[]] w (F3 w nms))/\
  (∀ {w:World} {h:AA} {nms:LB},BH w h 7 0 nms->nms.length<=100000->Calls prog 91 #[h.v,.func (.func 79) #[] #[]] w (F3 w nms))/\
  (∀ {w:World} {h:AA} {nms:LB},BH w h 51 0 nms->nms.length<=100000->Calls prog 92 #[h.v,.func (.func 81) #[] #[]] w (F3 w nms))/\
  (∀ {w:World} {h:AA} {nms:LB},BH w h 12 0 nms->nms.length<=100000->Calls prog 93 #[h.v,.func (.func 83) #[] #[]] w (F3 w nms))/\
  (∀ {w:World} {h:AA} {nms:LB},BH w h 11 0 nms->nms.length<=100000->Calls prog 95 #[h.v,.func (.func 89) #[] #[]] w (F3 w nms)):=by
 refine ⟨?_,?_,?_,?_,?_⟩
 all_goals
  intro w h nms hr hz
  have HR:=yb hr.2.2
  have HN:=yb hr.1
  have hn47:h.n<=100000:=by rw[hr.1];exact hz
  obtain ⟨ha,hn,hc⟩:=h
  unfold AA.v
  simp only at HN HR hn47
  clear hr hz
  have hmk:∀W:World,(Instr.makeMap 194 none).run prog W=.ok (.map (some W.heap.size)) (W.alloc (.map #[] 0)):=λW=>by kernel_rfl
  first|go_enter func90,ntmps90|go_enter func91,ntmps91|go_enter func92,ntmps92|go_enter func93,ntmps93|go_enter func95,ntmps95
  go_wp2
  go_loopw [14] (λiv wr=>∃i:Nat,iv=iV i/\i<=hn/\Hid ((nms.take i).Nodup)/\Hid (Below w.heap.size w wr)/\Hid (Cl wr w.heap.size (nms.take i))) (λiv _=>hn - (intOf iv).toNat)
  case atStart=>exact ⟨0,rfl,yC _,by simp[yb],yb ((yg _ _).alloc (yi _) _),yb (Mc w)⟩
  obtain ⟨i,rfl,hi,HA,HB,HM⟩:=hrel
  by_cases hlt:i < hn
  ·have hil:i < nms.length:=by rw[<-HN.o];exact hlt
   obtain ⟨b,o,cs,rfl,hb,hl,hra,hone,hnm,hsz⟩:=HR.o i hil
   have HRA:=yb (A8 hra (HB.o.block b hb))
   have HOne:=yb (yL hone)
   have HLn:=yb hl
   have HNm:=yb hnm
   have hki:(i:Int) < (hn:Int):=by omega
   have HSz:=yb hsz
   have HT:=yb (Mf hil HA.o)
   have HD:=yb (O8 hil)
   have HTk:=yb (yP hil)
   have HLi:Hid ((nms.take i).length=i):=yb (by rw[zM];omega)
   generalize nms[i]=nm at HNm HSz HT HD HTk
   have HNew:Hid (∀T,(wr.alloc (.cells cs.toArray T)).rangeAt wr.heap.size 0 cs):=yb (λT=>by
    have:=xy (World.alloc_heap_new wr (.cells cs.toArray T)) 0 cs.length
    simpa using this)
   have HB1:Hid (∀T,Below w.heap.size w (wr.alloc (.cells cs.toArray T))):=yb (λT=>HB.o.alloc HB.o.size (.cells cs.toArray T))
   have HM1:Hid (∀W,Below wr.heap.size wr W->Cl W w.heap.size (nms.take i)):=yb (λW hW=>HM.o.block (hW.block _ HM.o.lt))
   have HLe:Hid (∀T,wr.heap.size<=(wr.alloc (.cells cs.toArray T)).heap.size):=yb (λT=>by simp)
   have HBa:Hid (∀T,Below wr.heap.size wr (wr.alloc (.cells cs.toArray T))):=yb (λT=>(yg wr.heap.size wr).alloc (yi _) (.cells cs.toArray T))
   clear hra hone hnm hl hsz
   cases hp:Dj (nms.take i) nm with
   |some k=>
    have HF:Hid (¬ nms.Nodup):=yb (HD.o (by
     by_cases hm:nm∈nms.take i
     ·exact hm
     rw[Hq hm] at hp;cases hp))
    have HP:=yb hp
    clear hp
    go_wp2_with (first|(refine yj rfl _ _ rfl b _ rfl cs _ HRA.o (by first|exact qW|exact qX|exact qY|exact qZ|exact j1) (by rfl) (by rw[HLn.o];kernel_rfl) ?_)|(refine yt rfl _ _ _ rfl wr.heap.size cs.toArray rfl rfl _ _ (World.alloc_heap_new _ _) (by rw[yA,HLn.o];kernel_rfl) (by simp[HLn.o]) HOne.o ?_;rw[World.setRow_alloc_new])|(refine yj rfl _ _ rfl wr.heap.size 0 rfl cs _ (HNew.o _) (by first|exact qW|exact qX|exact qY|exact qZ|exact j1) (by rfl) (by rw[HLn.o];kernel_rfl) ?_)|((first|go_at_call 77|go_at_call 79|go_at_call 81|go_at_call 83|go_at_call 89);refine Calls.mono (by first|exact FT cs nm _ HLn.o HNm.o|exact Fh cs nm _ HLn.o HNm.o|exact EA cs nm _ HLn.o HNm.o|exact Fi cs nm _ HLn.o HNm.o|exact Fj cs nm _ HLn.o HNm.o) ?_;rintro e w2 ⟨rfl,hb2⟩;have HB2:=yb ((HB1.o _).trans (hb2.mono (yG HB.o.size (HLe.o _))));have HM2:=yb (HM1.o _ ((HBa.o _).trans (hb2.mono (HLe.o _))));have hlk:=HM2.o.look nm HSz.o;simp only[Ju,HP.o] at hlk;clear hb2)|(go_at_call 98;refine (CM _ _).mono ?_;rintro e w5 ⟨rfl,rfl⟩))
    exact ⟨rfl,HB2.o,.inr ⟨HF.o,rfl⟩⟩
   |none=>
    have HF:Hid (nm∉nms.take i):=yb (λhm=>by
     obtain ⟨k,h1,_⟩:=KF hm
     rw[h1] at hp;cases hp)
    have HP:=yb hp
    clear hp
    go_wp2_with (first|(refine yj rfl _ _ rfl b _ rfl cs _ HRA.o (by first|exact qW|exact qX|exact qY|exact qZ|exact j1) (by rfl) (by rw[HLn.o];kernel_rfl) ?_)|(refine yt rfl _ _ _ rfl wr.heap.size cs.toArray rfl rfl _ _ (World.alloc_heap_new _ _) (by rw[yA,HLn.o];kernel_rfl) (by simp[HLn.o]) HOne.o ?_;rw[World.setRow_alloc_new])|(refine yj rfl _ _ rfl wr.heap.size 0 rfl cs _ (HNew.o _) (by first|exact qW|exact qX|exact qY|exact qZ|exact j1) (by rfl) (by rw[HLn.o];kernel_rfl) ?_)|((first|go_at_call 77|go_at_call 79|go_at_call 81|go_at_call 83|go_at_call 89);refine Calls.mono (by first|exact FT cs nm _ HLn.o HNm.o|exact Fh cs nm _ HLn.o HNm.o|exact EA cs nm _ HLn.o HNm.o|exact Fi cs nm _ HLn.o HNm.o|exact Fj cs nm _ HLn.o HNm.o) ?_;rintro e w2 ⟨rfl,hb2⟩;have HB2:=yb ((HB1.o _).trans (hb2.mono (yG HB.o.size (HLe.o _))));have HM2:=yb (HM1.o _ ((HBa.o _).trans (hb2.mono (HLe.o _))));have hlk:=HM2.o.look nm HSz.o;simp only[Ju,HP.o] at hlk;clear hb2)|(go_at_call 98;refine (CX _ _).mono ?_;rintro e w5 ⟨rfl,rfl⟩)|(at_mapUpdate;refine Me _ rfl _ _ _ rfl w.heap.size (nms.take i) nm HM2.o rfl rfl (by rw[HLi.o];rfl) HSz.o HF.o (by rw[HLi.o];omega) ?_;intro w6 hm6 hg6;have HM5:=yb hm6;have HB5:=yb (HB2.o.trans (IC hg6 (yi _) HB2.o.size));clear hm6 hg6))
    exact ⟨⟨i+1,by push_cast;rfl,by omega,yb (HT.o HF.o),HB5,yb (by rw[HTk.o];exact HM5.o)⟩,by simp[intOf];omega⟩
  obtain rfl:i=hn:=by omega
  have hki:decide ((i:Int) < (i:Int))=false:=by simp
  have HF:Hid (nms.Nodup):=yb (by have:=HA.o;rw[HN.o,zA] at this;exact this)
  have HM9:Hid (Cl wr w.heap.size nms):=yb (by have:=HM.o;rw[HN.o,zA] at this;exact this)
  go_wp2
  go_ret
  exact ⟨HB.o,.inl ⟨HF.o,_,rfl,yi _,HM9.o⟩⟩
theorem U5{w:World}{h:AA}{nms:LB}(hr:BH w h 7 0 nms)(hz:nms.length<=100000):
  Calls prog 90 #[h.v,.func (.func 77) #[] #[]] w (F3 w nms):=GL.1 hr hz
theorem RY{w:World}{h:AA}{nms:LB}(hr:BH w h 7 0 nms)(hz:nms.length<=100000):
  Calls prog 91 #[h.v,.func (.func 79) #[] #[]] w (F3 w nms):=GL.2.1 hr hz
theorem PY{w:World}{h:AA}{nms:LB}(hr:BH w h 51 0 nms)(hz:nms.length<=100000):
  Calls prog 92 #[h.v,.func (.func 81) #[] #[]] w (F3 w nms):=GL.2.2.1 hr hz
theorem RZ{w:World}{h:AA}{nms:LB}(hr:BH w h 12 0 nms)(hz:nms.length<=100000):
  Calls prog 93 #[h.v,.func (.func 83) #[] #[]] w (F3 w nms):=GL.2.2.2.1 hr hz
theorem Mg{w:World}{h:AA}{nms:LB}(hr:BH w h 11 0 nms)(hz:nms.length<=100000):
  Calls prog 95 #[h.v,.func (.func 89) #[] #[]] w (F3 w nms):=GL.2.2.2.2 hr hz
theorem O9{w:World}{h:AA}{nms:LB}(hr:BH w h 1 0 nms)(hz:nms.length<=100000):
  Calls prog 94 #[h.v,.func (.func 75) #[] #[]] w (F3 w nms):=by
 have HR:=yb hr.2.2
 have HN:=yb hr.1
 have hn47:h.n<=100000:=by rw[hr.1];exact hz
 obtain ⟨ha,hn,hc⟩:=h
 unfold AA.v
 simp only at HN HR hn47
 clear hr hz
 have hmk:∀W:World,(Instr.makeMap 194 none).run prog W=.ok (.map (some W.heap.size)) (W.alloc (.map #[] 0)):=λW=>by kernel_rfl
 go_enter func94,ntmps94
 go_wp2
 go_loopw [14] (λiv wr=>∃i:Nat,iv=iV i/\i<=hn/\Hid ((nms.take i).Nodup)/\Hid (Below w.heap.size w wr)/\Hid (Cl wr w.heap.size (nms.take i))) (λiv _=>hn - (intOf iv).toNat)
 case atStart=>exact ⟨0,rfl,yC _,by simp[yb],yb ((yg _ _).alloc (yi _) _),yb (Mc w)⟩
 obtain ⟨i,rfl,hi,HA,HB,HM⟩:=hrel
 by_cases hlt:i < hn
 ·have hil:i < nms.length:=by rw[<-HN.o];exact hlt
  obtain ⟨b,o,cs,rfl,hb,hl,hra,hone,hnm,hsz⟩:=HR.o i hil
  have c0:wr.cell? (aV b (o+i))=some (.string nms[i]):=by
   have:=A8 hra (HB.o.block b hb) 0 _ hnm
   simpa using this
  have hki:(i:Int) < (hn:Int):=by omega
  have HSz:=yb hsz
  have HT:=yb (Mf hil HA.o)
  have HD:=yb (O8 hil)
  have HTk:=yb (yP hil)
  have HLi:Hid ((nms.take i).length=i):=yb (by rw[zM];omega)
  generalize nms[i]=nm at c0 HSz HT HD HTk
  have HM1:Hid (∀W,Below wr.heap.size wr W->Cl W w.heap.size (nms.take i)):=yb (λW hW=>HM.o.block (hW.block _ HM.o.lt))
  clear hra hone hnm hl hsz
  cases hp:Dj (nms.take i) nm with
  |some k=>
   have HF:Hid (¬ nms.Nodup):=yb (HD.o (by
    by_cases hm:nm∈nms.take i
    ·exact hm
    rw[Hq hm] at hp;cases hp))
   have HP:=yb hp
   clear hp
   go_wp2_with (first|(go_at_call 75;refine (FU nm _).mono ?_;rintro e w2 ⟨rfl,hb2⟩;have HB2:=yb (HB.o.trans (hb2.mono HB.o.size));have HM2:=yb (HM1.o _ hb2);have hlk:=HM2.o.look nm HSz.o;simp only[Ju,HP.o] at hlk;clear hb2)|(go_at_call 98;refine (CM _ _).mono ?_;rintro e w5 ⟨rfl,rfl⟩))
   exact ⟨rfl,HB2.o,.inr ⟨HF.o,rfl⟩⟩
  |none=>
   have HF:Hid (nm∉nms.take i):=yb (λhm=>by
    obtain ⟨k,h1,_⟩:=KF hm
    rw[h1] at hp;cases hp)
   have HP:=yb hp
   clear hp
   go_wp2_with (first|(go_at_call 75;refine (FU nm _).mono ?_;rintro e w2 ⟨rfl,hb2⟩;have HB2:=yb (HB.o.trans (hb2.mono HB.o.size));have HM2:=yb (HM1.o _ hb2);have hlk:=HM2.o.look nm HSz.o;simp only[Ju,HP.o] at hlk;clear hb2)|(go_at_call 98;refine (CX _ _).mono ?_;rintro e w5 ⟨rfl,rfl⟩)|(at_mapUpdate;refine Me _ rfl _ _ _ rfl w.heap.size (nms.take i) nm HM2.o rfl rfl (by rw[HLi.o];rfl) HSz.o HF.o (by rw[HLi.o];omega) ?_;intro w6 hm6 hg6;have HM5:=yb hm6;have HB5:=yb (HB2.o.trans (IC hg6 (yi _) HB2.o.size));clear hm6 hg6))
   exact ⟨⟨i+1,by push_cast;rfl,by omega,yb (HT.o HF.o),HB5,yb (by rw[HTk.o];exact HM5.o)⟩,by simp[intOf];omega⟩
 obtain rfl:i=hn:=by omega
 have hki:decide ((i:Int) < (i:Int))=false:=by simp
 have HF:Hid (nms.Nodup):=yb (by have:=HA.o;rw[HN.o,zA] at this;exact this)
 have HM9:Hid (Cl wr w.heap.size nms):=yb (by have:=HM.o;rw[HN.o,zA] at this;exact this)
 go_wp2
 go_ret
 exact ⟨HB.o,.inl ⟨HF.o,_,rfl,yi _,HM9.o⟩⟩
end Go.Proofs.YtbdfinegbjdblaaGreatDoor
