/- Parts of the proof, in short words: Ka Shelf La Na Nb Oa Nc Nd Nf Ng Oe Oc Pe Yo Rq Sq Wa Shm -/
import Derived.Test.YtghepahgkcigpaaProg
import Derived.WalkKit
import Derived.WalkSpells
import Derived.Below
import Derived.Deep.MidRow
import Derived.Lib.Hide
import Derived.Shelf.Small.Strs
import Derived.Shelf.Strings.Search1
import Derived.Shelf.Strings.Search2
import Derived.Shelf.Strings.Search3
import Derived.RangeFuncNested
import Derived.RangeFuncCalls
import Derived.RangeFuncLeaves
import Derived.Laws.EntriesVeiled
import Derived.WalkLawsBesides
import Derived.Deep.QuietTactic
import Derived.BigQuiet
import Derived.Lib.IndexAny
import Derived.OwnWalkIn
import Derived.TacticsInMore
import Derived.LoopNIn
import Derived.LoopIn
import Derived.Maps.Own
import Derived.Maps.Views
import Derived.OrdersHeld
import Derived.Deep.RegionHeld3
import Derived.Great.BuildSlice
import Derived.Orders
import Derived.OrdersIn
import Derived.TacticsIn
import Derived.ControlIn
import Derived.Deep.Slices
import Derived.Deep.Fields
import Derived.ChangeSame
import Derived.OpenShut
import Derived.SizedLaws
import Derived.Shelf.LaysM
set_option maxRecDepth 100000
set_option maxHeartbeats 4000000
set_option linter.unusedSimpArgs false
set_option linter.defProp false
namespace Go.Proofs.Ytghepahgkcigpaa
open Go.RowKit
theorem yb{p:Prop}(h:p):Hid p:=h
theorem _root_.Go.RowKit.Hid.o{p:Prop}(h:Hid p):p:=h
def ye:=@Array.getElem?_eq_some_iff
def yf:=@Nat.le_refl
def yg:=@Below.refl
def yh:=@Option.some.inj
def yi:=@List.mem_append
def yj:=@Bool.eq_false_iff
def yk:=@List.getElem?_eq_getElem
def yl:=@Nat.le_trans
def ym:=@wpList_load_mid
def yp:=@List.append_assoc
def yq:=@List.length_append
def yr:=@Nat.lt_of_lt_of_le
def yt:=@List.take_succ_eq_append_getElem
def yu:=@if_neg
def yv:=@Bool.and_eq_true
def yw:=@if_pos
def yx:=@List.take_length
def yy:=@of_decide_eq_true
def yz:=@List.getElem_mem
def yA:=@List.getElem?_eq_some_iff
def yB:=@Nat.zero_add
def yC:=@Nat.zero_le
def yD:=@List.size_toArray
def yE:=@DataW.weights_mem_each
def yF:=@Below.heap_alloc
def yG:=@wpList_plain
def yH:=@Array.getD_eq_getD_getElem?
def yI:=@List.length_cons
def yJ:=@congrArg
def yK:=@List.mem_cons
def yL:=@List.getElem?_append_right
def yM:=@List.length_nil
def yN:=@List.length_map
def yO:=@List.all_eq_true
def yP:=@List.length_take
def yQ:=@List.mem_flatMap
def yR:=@Array.getElem?_modify
def yS:=@yieldsIf_load_mid
def yT:=@heap_setCell_other
def yU:=@World.rangeAt_of_block
def yV:=@all_oneCell_toArray
def yW:=@decide_eq_true_eq
def yX:=@Bool.and_true
def yY:=@Option.some.injEq
def yZ:=@wpList_store_row
def z6:=@List.mem_range
def z7:=@heap_setCell_same
def z8:=@List.cons_append
def za:=@callsIn_wide
def zb:=@List.map_append
def zc:=@Bool.and_assoc
def ze:=@List.length_eq_zero_iff
def zf:=@List.all_cons
def zg:=@List.mem_iff_getElem
def zh:=@List.mem_singleton
def zj:=@List.all_append
def zk:=@List.nil_append
def zn:=@List.ext_getElem
def zo:=@List.drop_length
def zp:=@List.not_mem_nil
def zq:=@CallsIn.mono
def zs:=@List.getElem_mapIdx
def zt:=@List.append_nil
def zu:=@Array.all_eq_true_iff_forall_mem
def zv:=@List.flatMap_cons
def zw:=@Prod.mk.injEq
def zx:=@results_none
def zy:=@List.mem_map
def zA:=@List.all_nil
def zB:=@World.size_alloc
def zC:=@List.getElem?_append_left
def zD:=@WideShapes.add_plain
def zE:=@List.length_zipIdx
def zF:=@List.getElem_map
def zG:=@List.flatMap_append
def zH:=@DataW.trod_struct
def zI:=@StepsIn.trans
def zJ:=@List.getElem?_take
def zK:=@List.length_eq_one_iff
def zL:=@ByteArray.toList_eq
def zM:=@List.take_zero
def zN:=@World.block_lt_of_cell?
def zO:=@Array.replicate_succ
def zP:=@Array.replicate_zero
def zQ:=@List.flatMap_nil
def zR:=@Nat.add_assoc
def zS:=@Nat.lt_or_ge
def zT:=@List.drop_zero
def zU:=@List.append_toArray
def zV:=@List.map_congr_left
def zW:=@Oper.upon_enter
def zX:=@if_true
def zY:=@List.flatMap_map
def zZ:=@List.map_cons
def xb:=@getD_set_ne
def xd:=@List.forall_mem_cons
def xe:=@List.push_toArray
def xf:=@Value.slice.injEq
def xg:=@List.getElem_zipIdx
def xh:=@Array.getElem?_eq_none
def xi:=@wp_region_lit
def xj:=@List.getD_eq_getElem?_getD
def xm:=@List.map_flatMap
def xo:=@List.length_drop
def xp:=@mem_ready
def xq:=@Ne.symm
def xr:=@Array.mem_of_getElem?
def xt:=@Oper.semAt_some
def xu:=@bodyPost_ret
def xv:=@or_false
def xw:=@List.mem_of_getElem?
def xx:=@List.all_eq_false
def xy:=@List.cons.inj
def xz:=@decide_eq_false_iff_not
def xA:=@List.map_nil
def xB:=@List.take_append_drop
def xC:=@List.cons.injEq
def xD:=@List.nodup_cons
def xE:=@Nat.lt_irrefl
def xF:=@List.mem_cons_of_mem
def xG:=@wpList_nil
def xH:=@fenced_wide
def xI:=@stepR_block
def xJ:=@Option.bind_some
def xK:=@Nat.lt_succ_self
def xL:=@Value.pointer.injEq
def xM:=@List.getElem_of_mem
def xN:=@Nat.add_sub_cancel_left
def xO:=@List.getElem?_cons_zero
def xP:=@Bool.true_and
def xQ:=@Bool.eq_iff_iff
def xR:=@decide_eq_false
def xS:=@List.length_mapIdx
def xT:=@Option.map_some
def xU:=@Array.any_eq_true'
def xV:=@List.take_of_length_le
def xW:=@true_and
def xX:=@List.zipWith_cons_cons
def xY:=@List.flatten_cons
def xZ:=@List.map_map
def qb:=@Bool.false_and
def qd:=@Lib.cell?_alloc_some
def qe:=@Nat.mul_le_mul_right
def qf:=@List.getElem_append_right
def qg:=@run_loadVar_mid
def qh:=@Bool.or_eq_true
def qi:=@List.mem_filter
def qj:=@List.pairwise_iff_getElem
def qk:=@List.mem_or_eq_of_mem_set
def ql:=@List.getElem_append_left
def qm:=@Nat.add_zero
def qn:=@Array.mk.injEq
def qo:=@bne_iff_ne
def qp:=@Bool.and_false
def qq:=@Nat.add_mul
def qt:=@Nat.one_mul
def qu:=@wp_append_own
def qv:=@Addr.mk.injEq
def qw:=@Try.underlying122
def qx:=@Try.underlying127
def qB:=@Try.underlying23
def qC:=@Try.underlying24
def qD:=@Try.underlying26
def qE:=@Try.underlying27
def qF:=@Try.underlying28
def qG:=@Try.underlying29
def qH:=@Try.underlying3
def qI:=@Try.underlying30
def qJ:=@Try.underlying31
def qK:=@Try.underlying32
def qL:=@Try.underlying33
def qM:=@Try.underlying35
def qN:=@Try.underlying4
def qO:=@Try.underlying44
def qQ:=@Try.underlying49
def qR:=@Try.underlying5
def qS:=@Try.underlying51
def qT:=@Try.underlying55
def qU:=@Try.underlying57
def qV:=@Try.underlying59
def qW:=@Try.underlying62
def qX:=@Try.underlying64
def qY:=@Try.underlying66
def qZ:=@Try.underlying68
def j0:=@Try.underlying70
def j3:=@Try.underlying9
def j4:=@Try.underlying90
abbrev iV (n:Int):Value:=.int .i64 n
abbrev aV (b o:Nat):Addr:=⟨b,o,none⟩
abbrev pV (b o:Nat):Value:=.pointer (some ⟨b,o,none⟩)
abbrev LV:=List Value
abbrev LB:=List ByteArray
abbrev NP:=Nat->Prop
abbrev QT:=Exit->Act->World->Prop
abbrev _root_.Go.World.z (w:World):Nat:=w.heap.size
abbrev j5:List Value:=[.slice none 0 0,.slice none 0 0,.slice none 0 0,.slice none 0 0,.slice none 0 0,.slice none 0 0,.slice none 0 0]
abbrev j6:List Value:=[.slice none 0 0,.slice none 0 0,.slice none 0 0,.slice none 0 0,.slice none 0 0,.slice none 0 0]
abbrev j7:List Value:=[.slice none 0 0,.slice none 0 0,.slice none 0 0,.slice none 0 0,.slice none 0 0]
abbrev j8:List Value:=[.slice none 0 0,.slice none 0 0,.slice none 0 0,.slice none 0 0]
abbrev j9:Array Value:=#[.slice none 0 0]
abbrev ja:List Value:=[.slice none 0 0,.slice none 0 0,.slice none 0 0]
abbrev jb:Array Value:=#[.int .i64 0,.int .i64 0,.int .i64 0,.string {data:=#[]},.int .i64 0,.slice none 0 0]
abbrev jc:List Value:=[.slice none 0 0,.slice none 0 0]
end Go.Proofs.Ytghepahgkcigpaa
namespace Go.Proofs
open Go.Shelf
def Try.lays137_ren:Go.Shelf.Ren:=⟨fun|137=>97|217=>100|266=>104|n=>n,fun|9=>9|5=>5|3=>3|n=>n,fun|n=>n⟩
theorem Try.lays137:Go.Proofs.Lays.n137 Try.prog Try.lays137_ren:={
 mixed:=by kernel_rfl
 f137:=Try.func97.trans (congrArg some (by kernel_rfl))
 f217:=Try.func100.trans (congrArg some (by kernel_rfl))
 f266:=Try.func104.trans (congrArg some (by kernel_rfl))
 t3:=Try.underlying3
 a3:=Try.isAgg3
 z3:=Try.sizeOf3
 v3:=Try.zeroValue3
 t5:=Try.underlying5
 a5:=Try.isAgg5
 z5:=Try.sizeOf5
 v5:=Try.zeroValue5
 t9:=Try.underlying9
 a9:=Try.isAgg9
 z9:=Try.sizeOf9
 v9:=Try.zeroValue9}
open Go.RowKit in
theorem Try.strings_IndexByte(s:ByteArray)(c:Int)(w:World):
  Calls Try.prog 97 #[.string s,.int .u8 c] w fun e w'=>e=.returned (.int .i64 (Lib.indexByte s.data.toList c.toNat.toUInt8))∧w'=w:=Any.strings_IndexByte Try.lays137 s c w
def Try.lays144_ren:Go.Shelf.Ren:=⟨fun|144=>70|143=>92|219=>98|217=>100|225=>101|224=>102|267=>103|266=>104|314=>105|n=>n,fun|9=>9|4=>4|3=>3|5=>5|46=>168|146=>170|51=>169|n=>n,fun|1=>0|n=>n⟩
theorem Try.lays144:Go.Proofs.Lays.n144 Try.prog Try.lays144_ren:={
 mixed:=by kernel_rfl
 f143:=Try.func92.trans (congrArg some (by kernel_rfl))
 f144:=Try.func70.trans (congrArg some (by kernel_rfl))
 f217:=Try.func100.trans (congrArg some (by kernel_rfl))
 f219:=Try.func98.trans (congrArg some (by kernel_rfl))
 f224:=Try.func102.trans (congrArg some (by kernel_rfl))
 f225:=Try.func101.trans (congrArg some (by kernel_rfl))
 f266:=Try.func104.trans (congrArg some (by kernel_rfl))
 f267:=Try.func103.trans (congrArg some (by kernel_rfl))
 f314:=Try.func105.trans (congrArg some (by kernel_rfl))
 t3:=Try.underlying3
 a3:=Try.isAgg3
 z3:=Try.sizeOf3
 v3:=Try.zeroValue3
 t4:=Try.underlying4
 a4:=Try.isAgg4
 z4:=Try.sizeOf4
 v4:=Try.zeroValue4
 t5:=Try.underlying5
 a5:=Try.isAgg5
 z5:=Try.sizeOf5
 v5:=Try.zeroValue5
 t9:=Try.underlying9
 a9:=Try.isAgg9
 z9:=Try.sizeOf9
 v9:=Try.zeroValue9
 t46:=Try.underlying168
 a46:=Try.isAgg168
 z46:=Try.sizeOf168
 v46:=Try.zeroValue168
 t51:=Try.underlying169
 a51:=Try.isAgg169
 z51:=Try.sizeOf169
 v51:=Try.zeroValue169
 t146:=Try.underlying170
 a146:=Try.isAgg170
 z146:=Try.sizeOf170
 v146:=Try.zeroValue170
 g1:=by kernel_rfl}
open Go.RowKit Go.Lib in
theorem Try.strings_Contains(s sub:ByteArray)(m:Int)(w:World)(hs:s.size < 4294967281)(hm:w.cell? ⟨0,0,none⟩=some (.int .i64 m)):
  Calls Try.prog 70 #[.string s,.string sub] w fun e w'=>e=.returned (.bool (Lib.contains s.data.toList sub.data.toList))∧w'=w:=Any.strings_Contains Try.lays144 s sub m w hs hm
end Go.Proofs
namespace Go.Proofs.Ytghepahgkcigpaa
open Go.RowKit
variable{F:Fence}{n:Nat}{P:Program}
def Q0(P:Program)(l:Nat)(R:Ending->World->Prop):Exit->Act->World->Prop
 |.normal,_,w=>∃v w',(Instr.endRound l none).run P w=.ok v w'∧R (.returned v) w'
 |.ret,_,w=>∃v w',(Instr.endRound l (some .ret)).run P w=.ok v w'∧R (.returned v) w'
 |.exit id,_,w=>∃v w',(Instr.endRound l (some (.exit id))).run P w=.ok v w'∧R (.returned v) w'
 |.goto t,_,w=>∃v w',(Instr.endRound l (some (.goto t))).run P w=.ok v w'∧R (.returned v) w'
 |.panic chain,a,w=>a.defers=[]∧R (.panicked chain) w
 |.outgrown,_,_=>False
theorem JW{l:Nat}{f:FuncId}{fn:Func}(A:P.funcs[f]?=some fn){tmps:Array Value}{assign body:Code}{w:World}{R:Ending->World->Prop}(E:F.fn f)
 (h:assign.wpIn (F.inRound l) n P (Exit.then (fun x B=>∃y,(Instr.beginRound l).run P B=.ok () y∧body.wpIn (F.inRound l) n P (Q0 P l R) x y) (fun _ _ _=>False))
   {tmps:=tmps,defers:=[]} w):
  RoundIn F n P l f tmps assign body w R:=by
 refine ⟨E,fun c cs H=>?_⟩
 let b:Frame:={(default:Frame) with fn:=f,kind:=.normal,roundOf:=some l}
 have C:Frame.round l f tmps assign body .normal=b.atR {tmps:=tmps,defers:=[]} [.code assign,.beginRound,.code body]:=by
  simp[Frame.round,Frame.atR,b]
 have j:(F.inRound l).room ((c::cs).length+1+n):=H
 have i:(F.inRound l).fn b.fn:=E
 obtain ⟨e,x,B,s,g⟩:=h b [.beginRound,.code body] (c::cs) rfl i j
 rw[<-C] at g
 cases e with
 |normal=>
  obtain ⟨y,z,q⟩:=s
  have s1:StepsIn (Machine.fenced P (F.inRound l)) P (lone (b.atR x [.beginRound,.code body]) (c::cs) B) (lone (b.atR x [.code body]) (c::cs) y):=
   .one (fenced_calm (fr:=b.atR x [.beginRound,.code body]) i j rfl) (stepR_beginRound rfl z)
  obtain ⟨G,r,D,k,a⟩:=q b [] (c::cs) rfl i j
  cases G with
  |normal=>
   obtain ⟨v,p,d,m⟩:=k
   exact ⟨.returned v,p,m,(zI g s1).trans (zI a (.one (fenced_calm (fr:=b.atR r []) i j rfl) (stepR_round_end rfl rfl d)))⟩
  |ret=>
   obtain ⟨v,p,d,m⟩:=k
   obtain ⟨u,hs⟩:=a.2 rfl
   exact ⟨.returned v,p,m,(zI g s1).trans (zI hs (.one (fenced_calm (fr:=b.atR r (.code .ret::u)) i j rfl) (stepR_round_ret rfl rfl d)))⟩
  |exit id=>
   obtain ⟨v,p,d,m⟩:=k
   obtain ⟨u,hk,hs⟩:=a.2 rfl rfl
   exact ⟨.returned v,p,m,(zI g s1).trans (zI hs (.one (fenced_calm (fr:=b.atR r (.code (.exit id)::u)) i j rfl) (stepR_round_exit rfl rfl hk d)))⟩
  |goto t=>
   obtain ⟨v,p,d,m⟩:=k
   obtain ⟨u,hk,hs⟩:=a.2 rfl rfl
   exact ⟨.returned v,p,m,(zI g s1).trans (zI hs (.one (fenced_calm (fr:=b.atR r (.code (.goto t)::u)) i j rfl) (stepR_round_goto rfl rfl hk d)))⟩
  |panic chain=>
   obtain ⟨hd,m⟩:=k
   obtain ⟨o,hs⟩:=a
   have hl:Frame.leaving P {b.atR r o with mode:=.panicking chain} D (.panicked chain):=⟨rfl,hd,fn,A⟩
   exact ⟨.panicked chain,D,m,(zI g s1).trans (zI hs (.one (fenced_leaving (fr:={b.atR r o with mode:=.panicking chain}) i j hl) (step_leave_panicked hl)))⟩
  |outgrown=>exact k.elim
 |exit id=>exact s.elim
 |goto t=>exact s.elim
 |ret=>exact s.elim
 |panic chain=>exact s.elim
 |outgrown=>exact s.elim
def BL(O:NP)(W W':World):Prop:=W.heap.size<=W'.heap.size∧∀b,O b->W'.heap[b]?=W.heap[b]?
theorem BL.refl(O:NP)(W:World):BL O W W:=⟨yf _,fun _ _=>rfl⟩
theorem BL.trans{O:NP}{A B C:World}(h:BL O A B)(k:BL O B C):BL O A C:=⟨yl h.1 k.1,fun b hb=>(k.2 b hb).trans (h.2 b hb)⟩
theorem BL.sub{O a:NP}{A B:World}(h:BL O A B)(hs:∀b,a b->O b):BL a A B:=⟨h.1,fun b hb=>h.2 b (hs b hb)⟩
def E6{β:Type}(J:β->NP->World->Prop):Prop:=
 ∀s O W a W',J s O W->W.heap.size<=W'.heap.size->W'.os=W.os->W'.tape=W.tape->W'.output=W.output->(∀b,¬ O b->b < W.heap.size->W'.heap[b]?=W.heap[b]?)->(∀b,a b->O b∨W.heap.size<=b)->J s a W'
def W8(F:Fence)(n:Nat)(P:Program)(g:Nat)(lb:Array Value)(Hd:World->Prop)(xs:List (Array Value))(own:Option (List PanicEntry)):Prop:=
 ∀(l:Nat) (J:Nat->NP->World->Prop) (Jx:NP->World->Prop) (Jp:List PanicEntry->NP->World->Prop) (W:World),
  E6 J->E6 (fun (_:Unit)=>Jx)->(∀a,E6 (fun (_:Unit)=>Jp a))->(∀k O W,J k O W->Hd W)->(∀O W,Jx O W->Hd W)->(∀a,own=some a->∀O W,J xs.length O W->Jp a O W)->
  (∀k (hk:k < xs.length) O W1,J k O W1->W.heap.size<=W1.heap.size->(∀b,O b->W.heap.size<=b∧b < W1.heap.size)->YieldAt F (n - 1) P l xs[k] W1 fun e W'=>
   (e=.returned (.bool true)∧J (k+1) O W'∧BL O W1 W')∨(e=.returned (.bool false)∧Jx O W'∧BL O W1 W')∨(∃a,e=.panicked a∧Jp a O W'∧BL O W1 W'))->
  J 0 (fun _=>False) W->
  CallsIn F n P g (#[.func (.yield l) #[] #[]]++lb) W fun e W'=>
   ((∃v,e=.returned v)∧((own=none∧∃O,J xs.length O W')∨∃O,Jx O W'))∨∃a,e=.panicked a∧∃O,Jp a O W'
def Hb(f:FuncId)(P:Program)(c:Code)(Q:QT)(a:Act)(w:World):Prop:=
 ∀(b:Frame) (k:List Item) (cs:List Frame),b.roundOf=none->b.fn=f->
  ∃e d w',Q e d w'∧ArrivesIn (Machine.fenced P Fence.wide) P (lone (b.atR a (.code c::k)) cs w) b k cs e d w'
section
variable{f:FuncId}{Q:QT}{a:Act}{w:World}
theorem UT{c:Code}(h:c.wpIn Fence.wide n P Q a w):Hb f P c Q a w:=fun b k cs d _=>h b k cs d trivial (room_wide _)
theorem A7{c:Code}(h:c.wp P Q a w):Hb f P c Q a w:=UT (n:=0) (wpIn_wide.2 h)
theorem Ah{x y:Code}(h:Hb f P x (Exit.then (Hb f P y Q) Q) a w):Hb f P (Code.seq x y) Q a w:=by
 intro b k cs i hb
 have h0:(lone (b.atR a (.code (.seq x y)::k)) cs w).fenced P Fence.wide:=xH _ _
 obtain ⟨e,m,j,g,c⟩:=h b (.code y::k) cs i hb
 cases e with
 |normal=>
  obtain ⟨o,p,q,n,d⟩:=g b k cs i hb
  exact ⟨o,p,q,n,.of_steps (.head h0 stepR_seq c) d⟩
 |exit id=>exact ⟨_,m,j,g,.of_steps (.one h0 stepR_seq) (.pass (x:=.code y) rfl (fun _ _=>.inl (by simp)) c)⟩
 |goto l=>exact ⟨_,m,j,g,.of_steps (.one h0 stepR_seq) (.pass (x:=.code y) rfl (fun _ _=>.inl (by simp)) c)⟩
 |ret=>exact ⟨_,m,j,g,.of_steps (.one h0 stepR_seq) (.pass (x:=.code y) rfl (fun _ _=>.inl (by simp)) c)⟩
 |panic ch=>exact ⟨_,m,j,g,.of_steps (.one h0 stepR_seq) (.pass (x:=.code y) rfl (fun _ _=>.inl (by simp)) c)⟩
 |outgrown=>exact ⟨_,m,j,g,.of_steps (.one h0 stepR_seq) (.pass (x:=.code y) rfl (fun _ _=>.inl (by simp)) c)⟩
theorem EP{id:Nat}{c:Code}(h:Hb f P c (Exit.inBlock id Q) a w):Hb f P (Code.block id c) Q a w:=by
 intro b k cs p hb
 have h0:(lone (b.atR a (.code (.block id c)::k)) cs w).fenced P Fence.wide:=xH _ _
 obtain ⟨e,n,j,i,d⟩:=h b (.inBlock id::k) cs p hb
 cases e with
 |normal=>exact ⟨.normal,n,j,i,.head h0 xI (zI d (.one (xH _ _) stepR_inBlock))⟩
 |exit id'=>
  by_cases g:id'=id
  ·simp only[Exit.inBlock,g,zX] at i
   exact ⟨.normal,n,j,i,.head h0 xI (d.1 k (by simp[exitTo,g]))⟩
  ·simp only[Exit.inBlock,g,if_false] at i
   have this:(id==id')=false:=by simp;exact fun h=>g h.symm
   have o:exitTo id' (.inBlock id::k)=exitTo id' k:=by simp[exitTo,this]
   exact ⟨.exit id',n,j,i,fun k' hk=>.head h0 xI (d.1 k' (by rw[o];exact hk)),
    fun m hk=>let ⟨k₁,h1,h2⟩:=d.2 m (by rw[o];exact hk);⟨k₁,h1,.head h0 xI h2⟩⟩
 |goto l=>
  have o:gotoIn l (.inBlock id::k)=gotoIn l k:=by simp[gotoIn]
  exact ⟨_,n,j,i,fun k' hk=>.head h0 xI (d.1 k' (by rw[o];exact hk)),
   fun m hk=>let ⟨k₁,h1,h2⟩:=d.2 m (by rw[o];exact hk);⟨k₁,h1,.head h0 xI h2⟩⟩
 |ret=>exact ⟨_,n,j,i,.of_steps (.one h0 xI) d⟩
 |panic ch=>exact ⟨_,n,j,i,.of_steps (.one h0 xI) d⟩
 |outgrown=>exact ⟨_,n,j,i,.of_steps (.one h0 xI) d⟩
end
def WL(O:NP)(J:Nat->NP->World->Prop)(Jx:Code->NP->World->Prop)(Jp:List PanicEntry->NP->World->Prop)(k:Nat)(W:World):Exit->Act->World->Prop
 |.normal,_,W'=>BL O W W'∧J (k+1) O W'
 |.ret,_,W'=>BL O W W'∧Jx .ret O W'
 |.exit id,_,W'=>BL O W W'∧Jx (.exit id) O W'
 |.goto t,_,W'=>BL O W W'∧Jx (.goto t) O W'
 |.panic ch,a,W'=>a.defers=[]∧BL O W W'∧Jp ch O W'
 |.outgrown,_,_=>False
theorem E6.put{β:Type}{J:β->NP->World->Prop}(h:E6 J){s:β}{O:NP}{W:World}{l:Nat}(hl:O l)(o:Obj)(hs:J s O W):J s O (W.putObj l o):=
 h s O W O _ hs (by simp) rfl rfl rfl (fun b hb _=>World.putObj_heap_other (fun e=>hb (e▸hl))) (fun b hb=>.inl hb)
theorem Lg{f:FuncId}{g:Operand}{ps:Array Tmp}{assign body:Code}{Q:QT}{a:Act}{w:World}
 (h:∃(l:Nat) (m:List Deferred) (C:World) (d:Deferred) (r:World) (A:FuncId) (args:Array Value) (F:World),
   (Instr.enterLoop f a.tmps ps assign body none).run P w=.ok (l,m) C∧
   (resolve a.eval (rangeCall g l) 0).run P C=.ok d r∧
   (invoke d.target d.args).run P r=.ok (.enter A args) F∧
   CallsIn Fence.wide (n - 1) P A args F (rangePost Fence.wide n P l Q {a with defers:=m++a.defers})):
  Hb f P (Code.rangeFunc g ps assign body) Q a w:=by
 intro b k cs t hb
 obtain ⟨l,m,C,d,r,A,args,F,H,y,x,O,s⟩:=h
 rw[<-t,<-hb] at H
 have i:=stepR_rangeFunc (P:=P) (b:=b) (a:=a) (k:=k) (cs:=cs) (w:=w) H y x
 obtain ⟨e,K,fr,D,j,L,o⟩:=s (b.atR {a with defers:=m++a.defers} (.inRangeFunc l::k)::cs) (room_wide _)
 cases e with
 |outgrown=>
  obtain ⟨N,M,E⟩:=D
  exact ⟨.outgrown,N,M,E,.inr (Outgrown.of_steps (.one i) j)⟩
 |returned v=>
  obtain ⟨q,G,u,I⟩:=D
  have p:StepsIn (Machine.fenced P Fence.wide) P (lone (b.atR a (.code (.rangeFunc g ps assign body)::k)) cs w) (lone (b.atR {a with defers:=m++a.defers} ((q.map Item.code).toList++k)) cs G):=by
   refine .head (xH _ _) i (zI j (.head (xH _ _) ?_ (.one (xH _ _) (stepR_endRangeFunc u))))
   rw[<-finish_atR_inRangeFunc l v];exact step_leave_returned o
  cases q with
  |none=>exact ⟨.normal,_,G,I,p⟩
  |some c=>
   obtain ⟨e',B,J,E,z⟩:=I b k cs t trivial (room_wide _)
   exact ⟨e',B,J,E,.of_steps p z⟩
 |panicked chain=>
  refine ⟨.panic chain,_,K,D,.inRangeFunc l::k,.head (xH _ _) i (zI j (.one (xH _ _) ?_))⟩
  rw[<-Frame.raise_atR];exact step_leave_panicked o
theorem Ei{f:FuncId}{fn:Func}(hf:P.funcs[f]?=some fn){g:Operand}{ps:Array Tmp}{assign body:Code}{Q:QT}{a:Act}{w:World}
 {Y:Nat}{lb:Array Value}(hg:a.eval g=.func (.func Y) #[] lb)(eg:∀args w,(callFunc Y args).run P w=.ok (.enter Y args) w)
 {Hd:World->Prop}{xs:List (Array Value)}{own:Option (List PanicEntry)}(aa:W8 Fence.wide (n - 1) P Y lb Hd xs own)(ac:∀x∈xs,x.size=ps.size)
 (J:Nat->NP->World->Prop)(Jx:Code->NP->World->Prop)(Jp:List PanicEntry->NP->World->Prop)(A:Nat->Act->NP->World->Prop)
 (hJ:E6 J)(C:∀c,E6 (fun (_:Unit)=>Jx c))(ai:∀u,E6 (fun (_:Unit)=>Jp u))(hA:∀a,E6 (fun k=>A k a))(ad:∀k O W,J k O W->Hd W)(a1:∀c O W,Jx c O W->Hd W)(a6:∀u,own=some u->∀O W,J xs.length O W->Jp u O W)
 (h0:J 0 (fun _=>False) w)
 (E:∀k (hk:k < xs.length) O W l,J k O W->O l->(∃r,W.heap[l]?=some (.loop r))->(∀b,O b->b < W.heap.size)->assign.wpIn (Fence.wide.inRound l) (n - 1 - 1) P (Exit.then (fun U W₁=>BL O W W₁∧A k U O W₁) (fun _ _ _=>False))
   {tmps:=(ps.zip xs[k]).foldl (fun t (p,v)=>t.setIfInBounds p v) a.tmps,defers:=[]} W)
 (T:∀k (_:k < xs.length) O W l U,O l->(∃r,W.heap[l]?=some (.loop r))->(∀b,O b->b < W.heap.size)->A k U O W->body.wpIn (Fence.wide.inRound l) (n - 1 - 1) P (WL O J Jx Jp k W) U W)
 (S:own=none->∀D O W,w.heap.size<=D->O D->J xs.length O W->W.heap[D]?=some (.deferred (some []))->Q .normal {a with defers:={target:=.collected D,args:=#[]}::a.defers} W)
 (X:∀D c O W,w.heap.size<=D->O D->Jx c O W->W.heap[D]?=some (.deferred (some []))->c.wpIn Fence.wide n P Q {a with defers:={target:=.collected D,args:=#[]}::a.defers} W)
 (L:∀D u O W,w.heap.size<=D->O D->Jp u O W->W.heap[D]?=some (.deferred (some []))->Q (.panic u) {a with defers:={target:=.collected D,args:=#[]}::a.defers} W):
  Hb f P (Code.rangeFunc g ps assign body) Q a w:=by
 refine Lg (n:=n) ?_
 obtain ⟨j,o⟩:∃j:LoopState->Option Code->Loop,j=fun st pe=>{state:=st,pending:=pe,fn:=f,tmps:=a.tmps,params:=ps,assign,body,defers:=w.heap.size}:=⟨_,rfl⟩
 obtain ⟨W1,F⟩:∃W1,(w.alloc (.deferred (some []))).alloc (.loop (j .ready none))=W1:=⟨_,rfl⟩
 have ak:W1.heap.size=w.heap.size+2:=by rw[<-F];simp
 have ag:W1.heap[w.heap.size+1]?=some (.loop (j .ready none)):=by
  rw[<-F];have:=World.alloc_heap_new (w.alloc (.deferred (some []))) (.loop (j .ready none));rwa [zB] at this
 have aj:W1.heap[w.heap.size]?=some (.deferred (some [])):=by
  rw[<-F];exact (yF _ _ _ (by simp)).trans (World.alloc_heap_new w _)
 have af:J 0 (fun b=>False∨b=w.heap.size∨b=w.heap.size+1) W1:=by
  rw[<-F]
  refine hJ 0 _ w _ _ h0 (by simp;omega) rfl rfl rfl (fun b _ hb=>?_) (fun b hb=>.inr ?_)
  ·rw[yF _ _ _ (by simp;omega),yF _ _ _ hb]
  ·rcases hb with hb|rfl|rfl
   ·exact hb.elim
   ·exact yf _
   ·omega
 refine ⟨w.heap.size+1,[{target:=.collected w.heap.size,args:=#[]}],W1,{target:=.fn (.func Y) lb,args:=#[.func (.yield (w.heap.size+1)) #[] #[]]},W1,Y,
  #[.func (.yield (w.heap.size+1)) #[] #[]]++lb,W1,?_,?_,?_,?_⟩
 ·rw[<-F,o];exact run_enterLoop_outer _ _ _ _ _
 ·simp only[resolve,hg]
  simp[go_sem]
 ·simp[invoke,go_sem,eg]
 generalize hD:w.heap.size=D at*
 generalize hl:D+1=l at*
 have al:D < l:=by omega
 refine (aa l
  (fun k O W=>J k (fun b=>O b∨b=D∨b=l) W∧W.heap[l]?=some (.loop (j .ready none))∧W.heap[D]?=some (.deferred (some []))∧(∀b,O b->W1.heap.size<=b)∧W1.heap.size<=W.heap.size)
  (fun O W=>∃c,Jx c (fun b=>O b∨b=D∨b=l) W∧W.heap[l]?=some (.loop (j .done (some c)))∧W.heap[D]?=some (.deferred (some []))∧(∀b,O b->W1.heap.size<=b)∧W1.heap.size<=W.heap.size)
  (fun u O W=>Jp u (fun b=>O b∨b=D∨b=l) W∧W.heap[D]?=some (.deferred (some []))∧(∀b,O b->W1.heap.size<=b)∧W1.heap.size<=W.heap.size) W1 ?_ ?_ ?_ ?_ ?_ ?_ ?_ ⟨af,ag,aj,fun b hb=>hb.elim,yf _⟩).mono ?_
 ·rintro k O W O' W' ⟨h1,h2,h3,h4,h5⟩ Z R ht hu i N
  refine ⟨hJ k _ W _ W' h1 Z R ht hu (fun b hb y=>i b (fun h=>hb (.inl h)) y) (fun b hb=>?_),?_,?_,fun b hb=>?_,by omega⟩
  ·rcases hb with hb|hb
   ·rcases N b hb with h|h
    ·exact .inl (.inl h)
    ·exact .inr h
   ·exact .inl (.inr hb)
  ·exact (i l (fun h=>by have:=h4 l h;omega) (ye.1 h2).1).trans h2
  ·exact (i D (fun h=>by have:=h4 D h;omega) (ye.1 h3).1).trans h3
  ·rcases N b hb with h|h
   ·exact h4 b h
   ·omega
 ·rintro _ O W O' W' ⟨c,h1,h2,h3,h4,h5⟩ Z R ht hu i N
  refine ⟨c,C c () _ W _ W' h1 Z R ht hu (fun b hb y=>i b (fun h=>hb (.inl h)) y) (fun b hb=>?_),?_,?_,fun b hb=>?_,by omega⟩
  ·rcases hb with hb|hb
   ·rcases N b hb with h|h
    ·exact .inl (.inl h)
    ·exact .inr h
   ·exact .inl (.inr hb)
  ·exact (i l (fun h=>by have:=h4 l h;omega) (ye.1 h2).1).trans h2
  ·exact (i D (fun h=>by have:=h4 D h;omega) (ye.1 h3).1).trans h3
  ·rcases N b hb with h|h
   ·exact h4 b h
   ·omega
 ·rintro u _ O W O' W' ⟨h1,h3,h4,h5⟩ Z R ht hu i N
  refine ⟨ai u () _ W _ W' h1 Z R ht hu (fun b hb y=>i b (fun h=>hb (.inl h)) y) (fun b hb=>?_),?_,fun b hb=>?_,by omega⟩
  ·rcases hb with hb|hb
   ·rcases N b hb with h|h
    ·exact .inl (.inl h)
    ·exact .inr h
   ·exact .inl (.inr hb)
  ·exact (i D (fun h=>by have:=h4 D h;omega) (ye.1 h3).1).trans h3
  ·rcases N b hb with h|h
   ·exact h4 b h
   ·omega
 ·exact fun k O W h=>ad k _ W h.1
 ·exact fun O W h=>h.elim fun c h=>a1 c _ W h.1
 ·exact fun u he O W h=>⟨a6 u he _ W h.1,h.2.2.1,h.2.2.2.1,h.2.2.2.2⟩
 ·
  rintro k hk O W ⟨h1,h2,h3,h4,h5⟩ Z ah
  have hy:=run_yield (P:=P) (args:=xs[k]) h2 (by rw[o];exact ac _ (yz hk))
  rw[o] at hy
  have a0:∀b,(O b∨b=D∨b=l)->b < W.heap.size:=fun b hb=>by
   rcases hb with hb|hb|hb
   ·exact (ah b hb).2
   ·rw[hb];exact (ye.1 h3).1
   ·rw[hb];exact (ye.1 h2).1
  refine ⟨f,_,assign,body,hy,JW hf trivial (wpIn_mono (E k hk _ W l h1 (.inr (.inr rfl)) ⟨_,h2⟩ a0) ?_)⟩
  clear hy
  rintro e U Wa B
  cases e with
  |normal=>
   obtain ⟨hs,ae⟩:=B
   have G:=(hs.2 l (.inr (.inr rfl))).trans h2
   have K:=(hs.2 D (.inr (.inl rfl))).trans h3
   have y:=(ye.1 G).1
   refine ⟨_,run_beginRound G (by rw[o]),?_⟩
   have a2:(Wa.putObj l (.loop {j .ready none with state:=.busy})).heap[l]?=some (.loop {j .ready none with state:=.busy}):=World.putObj_heap_same y
   have a8:(Wa.putObj l (.loop {j .ready none with state:=.busy})).heap[D]?=some (.deferred (some [])):=(World.putObj_heap_other (by omega)).trans K
   refine wpIn_mono (T k hk _ _ l U (.inr (.inr rfl)) ⟨_,a2⟩ (fun b hb=>by have:=a0 b hb;have:=hs.1;simp;omega) ((hA U).put (.inr (.inr rfl)) _ ae)) ?_
   have I:∀(d:Option Code) (z:World),BL (fun b=>O b∨b=D∨b=l) (Wa.putObj l (.loop {j .ready none with state:=.busy})) z->
     (Instr.endRound l d).run P z=.ok (.bool d.isNone) (z.putObj l (.loop (j (if d.isNone then .ready else .done) d)))∧
     (z.putObj l (.loop (j (if d.isNone then .ready else .done) d))).heap[l]?=some (.loop (j (if d.isNone then .ready else .done) d))∧
     (z.putObj l (.loop (j (if d.isNone then .ready else .done) d))).heap[D]?=some (.deferred (some []))∧
     W1.heap.size<=(z.putObj l (.loop (j (if d.isNone then .ready else .done) d))).heap.size∧
     BL O W (z.putObj l (.loop (j (if d.isNone then .ready else .done) d))):=fun d z m=>by
    have a7:=(m.2 l (.inr (.inr rfl))).trans a2
    have H:=run_endRound (P:=P) d a7
    rw[o] at H ⊢
    have z1:=hs.1
    have z3:Wa.heap.size<=z.heap.size:=by have:=m.1;simpa using this
    refine ⟨H,World.putObj_heap_same (ye.1 a7).1,(World.putObj_heap_other (by omega)).trans ((m.2 D (.inr (.inl rfl))).trans a8),by simp;omega,by simp;omega,fun b hb=>?_⟩
    have M:b≠l:=fun e=>by have:=h4 b hb;subst e;omega
    rw[World.putObj_heap_other M,m.2 b (.inl hb),World.putObj_heap_other M,hs.2 b (.inl hb)]
   rintro e a3 z B
   cases e with
   |normal=>
    obtain ⟨m,q⟩:=B
    obtain ⟨H,g1,G,K,V⟩:=I none z m
    exact ⟨_,_,H,.inl ⟨rfl,⟨hJ.put (.inr (.inr rfl)) _ q,g1,G,h4,K⟩,V⟩⟩
   |ret=>
    obtain ⟨m,q⟩:=B
    obtain ⟨H,g1,G,K,V⟩:=I (some .ret) z m
    exact ⟨_,_,H,.inr (.inl ⟨rfl,⟨.ret,(C .ret).put (s:=()) (.inr (.inr rfl)) _ q,g1,G,h4,K⟩,V⟩)⟩
   |exit id=>
    obtain ⟨m,q⟩:=B
    obtain ⟨H,g1,G,K,V⟩:=I (some (.exit id)) z m
    exact ⟨_,_,H,.inr (.inl ⟨rfl,⟨.exit id,(C (.exit id)).put (s:=()) (.inr (.inr rfl)) _ q,g1,G,h4,K⟩,V⟩)⟩
   |goto t=>
    obtain ⟨m,q⟩:=B
    obtain ⟨H,g1,G,K,V⟩:=I (some (.goto t)) z m
    exact ⟨_,_,H,.inr (.inl ⟨rfl,⟨.goto t,(C (.goto t)).put (s:=()) (.inr (.inr rfl)) _ q,g1,G,h4,K⟩,V⟩)⟩
   |panic u=>
    obtain ⟨hd,m,q⟩:=B
    have z1:=hs.1
    have z3:Wa.heap.size<=z.heap.size:=by have:=m.1;simpa using this
    refine ⟨hd,.inr (.inr ⟨u,rfl,⟨q,(m.2 D (.inr (.inl rfl))).trans a8,h4,by omega⟩,by omega,fun b hb=>?_⟩)⟩
    have M:b≠l:=fun e=>by have:=h4 b hb;subst e;omega
    rw[m.2 b (.inl hb),World.putObj_heap_other M,hs.2 b (.inl hb)]
   |outgrown=>exact B.elim
  |exit id=>exact B.elim
  |goto t=>exact B.elim
  |ret=>exact B.elim
  |panic u=>exact B.elim
  |outgrown=>exact B.elim
 ·
  rintro e W2 (⟨⟨v,rfl⟩,(⟨R,O,h1,h2,h3,h4,h5⟩|⟨O,c,h1,h2,h3,h4,h5⟩)⟩|⟨u,rfl,O,h1,h2,h4,h5⟩)
  ·exact ⟨none,_,by have:=run_endLoop (P:=P) h2 (by rw[o];simp);rw[o] at this;exact this,S R D _ _ (yf _) (.inr (.inl rfl)) (hJ.put (.inr (.inr rfl)) _ h1) ((World.putObj_heap_other (by omega)).trans h3)⟩
  ·exact ⟨some c,_,by have:=run_endLoop (P:=P) h2 (by rw[o];simp);rw[o] at this;exact this,X D c _ _ (yf _) (.inr (.inl rfl)) ((C c).put (s:=()) (.inr (.inr rfl)) _ h1) ((World.putObj_heap_other (by omega)).trans h3)⟩
  ·exact L D u _ W2 (yf _) (.inr (.inl rfl)) h1 h2
theorem Cv{f:FuncId}{fn:Func}{c:Code}{args:Array Value}{w:World}{R:Ending->World->Prop}(r:P.funcs[f]?=some fn)(hb:fn.body=some c)
 (h:Hb f P c (bodyPostM Fence.wide n P fn R) {tmps:=args++Array.replicate (fn.ntmps - args.size) undef,defers:=[]} w):Calls P f args w R:=by
 refine (za (n:=n)).1 ⟨trivial,fun cs s=>?_⟩
 let b:Frame:={(default:Frame) with fn:=f,kind:=.normal,roundOf:=none}
 have k:Frame.enter P f args .normal=
   b.atR {tmps:=args++Array.replicate (fn.ntmps - args.size) undef,defers:=[]} [.code c]:=by
  simp[Frame.enter,Frame.atR,r,hb,b]
 obtain ⟨e,o,w',p,a⟩:=h b [] cs rfl rfl
 rw[<-k] at a
 cases e with
 |normal=>
  obtain ⟨e',g,d,q,hs,i,hl⟩:=leaves_stepsInM o.defers .returning w' {b.atR o [] with mode:=.returning} cs rfl rfl rfl r rfl trivial s p
  exact ⟨e',g,d,q,ComesIn.of_steps (zI a (.one (xH _ _) (stepR_end rfl))) hs,i,hl⟩
 |ret=>
  obtain ⟨j,m⟩:=a.1 rfl
  obtain ⟨e',g,d,q,hs,i,hl⟩:=leaves_stepsInM o.defers .returning w' {b.atR o j with mode:=.returning} cs rfl rfl rfl r rfl trivial s p
  exact ⟨e',g,d,q,ComesIn.of_steps m hs,i,hl⟩
 |panic chain=>
  obtain ⟨j,m⟩:=a
  obtain ⟨e',g,d,q,hs,i,hl⟩:=leaves_stepsInM o.defers (.panicking chain) w' {b.atR o j with mode:=.panicking chain} cs rfl rfl rfl r rfl trivial s p
  exact ⟨e',g,d,q,ComesIn.of_steps m hs,i,hl⟩
 |exit id=>exact p.elim
 |goto l=>exact p.elim
 |outgrown=>exact ⟨.outgrown,w',b,p,a.resolve_left (by simp[b]),rfl,trivial⟩
end Go.Proofs.Ytghepahgkcigpaa
namespace Go.Proofs.Ytghepahgkcigpaa
open Go.RowKit
inductive Ex where
 |mk (op n u:Int) (rn:ByteArray) (ri:Int) (args:List Ex)
namespace Ex
def op:Ex->Int|.mk o _ _ _ _ _=>o
def n:Ex->Int|.mk _ n _ _ _ _=>n
def u:Ex->Int|.mk _ _ u _ _ _=>u
def rn:Ex->ByteArray|.mk _ _ _ r _ _=>r
def ri:Ex->Int|.mk _ _ _ _ i _=>i
def args:Ex->List Ex|.mk _ _ _ _ _ l=>l
end Ex
mutual
def AS(N:NP)(w:World):Ex->LV->Prop
 |.mk op n u rn ri args,cs=>∃a cap,cs=[.int .i64 op,.int .i64 n,.int .i64 u,.string rn,.int .i64 ri,.slice a args.length cap]∧args.length<=140737488355328∧rn.size<=maxLen∧DK N w a 0 args
def DK(N:NP)(w:World)(a:Option Addr):Nat->List Ex->Prop
 |_,[]=>True
 |i,e::r=>(∃b o cs,a=some ⟨b,o,none⟩∧N b∧w.rangeAt b (o+i*6) cs∧AS N w e cs)∧DK N w a (i+1) r
end
def Tg(N:NP)(w:World)(v:Value)(l:List Ex):Prop:=∃a cap,v=.slice a l.length cap∧l.length<=140737488355328∧DK N w a 0 l
theorem Em{N:NP}{w:World}{a:Option Addr}:∀ {l:List Ex} {k:Nat},DK N w a k l->∀i (h:i < l.length),∃b o cs,a=some ⟨b,o,none⟩∧N b∧w.rangeAt b (o+(k+i)*6) cs∧AS N w l[i] cs
 |[],_,_,i,h=>by simp at h
 |e::r,k,hr,i,h=>by
  rw[DK] at hr
  cases i with
  |zero=>exact hr.1
  |succ i=>
   obtain ⟨b,o,cs,h1,h2,h3,h4⟩:=Em hr.2 i (by simpa using h)
   exact ⟨b,o,cs,h1,h2,by rw[show k+(i+1)=k+1+i by omega];exact h3,by simpa using h4⟩
theorem R4{N:NP}{w:World}{a:Option Addr}:∀ {l:List Ex} {k:Nat},(∀i (h:i < l.length),∃b o cs,a=some ⟨b,o,none⟩∧N b∧w.rangeAt b (o+(k+i)*6) cs∧AS N w l[i] cs)->DK N w a k l
 |[],_,_=>by rw[DK];trivial
 |e::r,k,h=>by
  rw[DK]
  refine ⟨h 0 (by simp),R4 fun i hi=>?_⟩
  obtain ⟨b,o,cs,h1,h2,h3,h4⟩:=h (i+1) (by simpa using hi)
  exact ⟨b,o,cs,h1,h2,by rw[show k+1+i=k+(i+1) by omega];exact h3,by simpa using h4⟩
theorem A2{w w':World}{b o:Nat}{cs:LV}(h:w.rangeAt b o cs)(hb:w'.heap[b]?=w.heap[b]?):w'.rangeAt b o cs:=fun j v a=>by
 have:=h j v a
 unfold World.cell? at this ⊢
 rw[hb];exact this
mutual
theorem AS.same{N N':NP}{w w':World}(c:∀b,N b->N' b)(hb:∀b,N b->w'.heap[b]?=w.heap[b]?):∀ {e:Ex} {cs:LV},AS N w e cs->AS N' w' e cs
 |.mk _ _ _ _ _ args,_,h=>by
  rw[AS] at h ⊢
  obtain ⟨a,cap,h1,h2,h3,h4⟩:=h
  exact ⟨a,cap,h1,h2,h3,DK.same c hb h4⟩
theorem DK.same{N N':NP}{w w':World}{a:Option Addr}(c:∀b,N b->N' b)(hb:∀b,N b->w'.heap[b]?=w.heap[b]?):∀ {l:List Ex} {k:Nat},DK N w a k l->DK N' w' a k l
 |[],_,h=>by rw[DK];trivial
 |e::r,k,h=>by
  rw[DK] at h ⊢
  obtain ⟨⟨b,o,cs,h1,h2,h3,h4⟩,h5⟩:=h
  exact ⟨⟨b,o,cs,h1,c b h2,A2 h3 (hb b h2),AS.same c hb h4⟩,DK.same c hb h5⟩
end
theorem Tg.same{N N':NP}{w w':World}{v:Value}{l:List Ex}(c:∀b,N b->N' b)(hb:∀b,N b->w'.heap[b]?=w.heap[b]?)(h:Tg N w v l):Tg N' w' v l:=by
 obtain ⟨a,cap,h1,h2,h3⟩:=h
 exact ⟨a,cap,h1,h2,DK.same c hb h3⟩
mutual
def AJ:Ex->Nat
 |.mk _ _ _ _ _ args=>Bq args
def Bq:List Ex->Nat
 |[]=>0
 |e::r=>max (1+AJ e) (Bq r)
end
mutual
theorem Ib{P:Ex->Prop}(h:∀op n u rn ri args,(∀e∈args,P e)->P (.mk op n u rn ri args)):∀e,P e
 |.mk op n u rn ri args=>h op n u rn ri args (R5 h args)
theorem R5{P:Ex->Prop}(h:∀op n u rn ri args,(∀e∈args,P e)->P (.mk op n u rn ri args)):∀l:List Ex,∀e∈l,P e
 |[]=>fun _ a=>by simp at a
 |x::r=>fun e a=>(yK.1 a).elim (fun q=>q▸Ib h x) (R5 h r e)
end
theorem Kp:∀(l:List Ex) (e:Ex),Bq (l++[e])=max (Bq l) (1+AJ e)
 |[],e=>by simp[Bq]
 |x::r,e=>by
  rw[z8,Bq,Bq,Kp r e,Nat.max_assoc]
theorem Kq{l:List Ex}{i:Nat}(h:i < l.length):Bq (l.take (i+1))=max (Bq (l.take i)) (1+AJ l[i]):=by
 rw[yt h,Kp]
theorem JX:∀(l:List Ex) (i:Nat),Bq (l.take i)<=Bq l
 |[],i=>by simp
 |x::r,0=>by simp[Bq]
 |x::r,i+1=>by
  rw[List.take_succ_cons,Bq,Bq]
  have:=JX r i
  omega
theorem Q1{l:List Ex}{i:Nat}(h:i < l.length):1+AJ l[i]<=Bq l:=by
 have h1:=Kq h
 have h2:=JX l (i+1)
 omega
theorem AS.cells{N:NP}{w:World}{e:Ex}{cs:LV}(h:AS N w e cs):∃a cap,cs=[.int .i64 e.op,.int .i64 e.n,.int .i64 e.u,.string e.rn,.int .i64 e.ri,.slice a e.args.length cap]∧e.args.length<=140737488355328∧e.rn.size<=maxLen∧DK N w a 0 e.args:=by
 cases e
 rw[AS] at h
 exact h
theorem AS.mk'{N:NP}{w:World}{e:Ex}{a:Option Addr}{cap:Nat}(h1:e.args.length<=140737488355328)(h2:e.rn.size<=maxLen)(h3:DK N w a 0 e.args):
  AS N w e [.int .i64 e.op,.int .i64 e.n,.int .i64 e.u,.string e.rn,.int .i64 e.ri,.slice a e.args.length cap]:=by
 cases e
 rw[AS]
 exact ⟨a,cap,rfl,h1,h2,h3⟩
theorem BJ{w:World}{b o:Nat}{x0 d a e c f:Value}(h:w.rangeAt b o [x0,d,a,e,c,f]):w.cell? ⟨b,o,none⟩=some x0∧w.cell? ⟨b,o+1,none⟩=some d∧w.cell? ⟨b,o+2,none⟩=some a∧w.cell? ⟨b,o+3,none⟩=some e∧w.cell? ⟨b,o+4,none⟩=some c∧w.cell? ⟨b,o+5,none⟩=some f:=
 ⟨h 0 _ rfl,h 1 _ rfl,h 2 _ rfl,h 3 _ rfl,h 4 _ rfl,h 5 _ rfl⟩
theorem DL{N:NP}{B:Nat}{w w':World}(hN:∀b,N b->b < B)(hb:Below B w w'):∀b,N b->w'.heap[b]?=w.heap[b]?:=fun b h=>hb.block b (hN b h)
theorem KQ{k:IntKind}{a b:Int}(h:a=b):Ending.returned (.int k a)=.returned (.int k b):=by rw[h]
theorem BG{a b:Bool}(h:a=b):Ending.returned (.bool a)=.returned (.bool b):=by rw[h]
theorem D4(e:Int)(w:World):Calls Try.prog 50 #[.bool true,.int .i64 e] w fun x w'=>x=.returned (.tuple #[])∧w'=w:=by
 go_enter Try.func50,Try.ntmps50
 go_wp2
 go_end0
 exact ⟨rfl,rfl⟩
theorem CN(e:Int)(w:World):Calls Try.prog 50 #[.bool false,.int .i64 e] w fun x w'=>x=.panicked [{v:=.iface 38 (.int .i64 e),recovered:=false}]∧w'=w:=by
 go_enter Try.func50,Try.ntmps50
 go_wp2
 exact ⟨rfl,rfl,rfl⟩
theorem RT:∀(e:Ex) {N:NP} {w:World} {cs:LV},AS N w e cs->(∀b,N b->b < w.heap.size)->AJ e<=1000000->
  Calls Try.prog 68 #[.agg cs.toArray] w fun x w'=>x=.returned (.int .i64 (AJ e))∧Below w.heap.size w w':=by
 refine Ib fun op R u rn ri args ih=>?_
 intro N w cs h hN hd
 rw[AS] at h
 obtain ⟨a,cap,rfl,hl,V,j⟩:=h
 have p:=yb j
 have y:=yb hN
 have U:=yb ih
 have I:AJ (.mk op R u rn ri args)=Bq args:=rfl
 rw[I] at hd ⊢
 have D:=yb hd
 generalize H:args.length=m at hl ⊢
 have K:=yb H
 clear j hN ih I hd H
 go_enter Try.func68,Try.ntmps68
 go_wp2
 go_loopw [2,8] (fun T B wr=>∃i:Nat,T=iV (Bq (args.take i))∧B=iV i∧i<=m∧Hid (Below w.heap.size w wr)) (fun _ B _=>m - (intOf B).toNat)
 case atStart=>exact ⟨0,by simp[Bq],rfl,yC _,yb ((yg _ _).alloc (yf _) _)⟩
 case round=>
  obtain ⟨i,rfl,rfl,hi,q⟩:=hrel
  by_cases F:i < m
  ·have f:i < args.length:=by rw[K.o];exact F
   obtain ⟨b,o,cs,rfl,G,s,g⟩:=Em p.o i f
   have v:=AS.same (fun b h=>h) (DL y.o q.o) g
   have c:=A2 s (q.o.block b (y.o b G))
   obtain ⟨S,l,rfl,_⟩:=g.cells
   rw[yB] at c
   obtain ⟨c0,c1,c2,X,c4,Y⟩:=BJ c
   have r:=Q1 f
   have d:=Kq f
   have z:=JX args (i+1)
   have J:=yb (fun (W:World) (L:Below w.heap.size w W)=>U.o args[i] (yz f) (AS.same (fun b h=>h) (DL y.o L) g) (fun b h=>yr (y.o b h) L.size) (by have:=D.o;omega))
   generalize args[i]=x at*
   have k:=yb (q.o.alloc q.o.size (.cells #[iV x.op,iV x.n,iV x.u,.string x.rn,iV x.ri,.slice S x.args.length l] 26))
   have O:(i:Int) < (m:Int):=by omega
   generalize hdx:AJ x=Q at r d J ⊢
   have P:=yb hdx
   generalize A:Bq (args.take i)=M at d ⊢
   have E:=yb d
   have h1:(Q:Int)<=1000000:=by have:=D.o;omega
   have h2:(M:Int)<=1000000:=by have:=D.o;omega
   clear g v s c hdx A r d z
   go_wp2_with fail
   refine (J.o _ k.o).mono ?_
   rintro e w2 ⟨rfl,t⟩
   have C:=yb (k.o.trans (t.mono k.o.size))
   clear t
   go_wp2
   refine ⟨⟨i+1,?_,by go_num,by omega,C⟩,by simp[intOf];omega⟩
   rw[E.o]
   congr 1
   first|(split<;>omega)|omega
  ·obtain rfl:i=m:=by omega
   go_wp2
   go_ret
   refine ⟨KQ (by rw[<-K.o,yx]),q.o⟩
def Di(c:UInt8):Bool:=(97<=c.toNat&&c.toNat<=122)||(65<=c.toNat&&c.toNat<=90)
def JY(c:UInt8):Bool:=48<=c.toNat&&c.toNat<=57
def Lh(c:UInt8):Bool:=c.toNat==32||c.toNat==9||c.toNat==10||c.toNat==13
def Gh(c:UInt8):Bool:=Di c||JY c||c.toNat==95
def Th:List UInt8:=[123,125,40,41,59,44,61,58,46,60,62,33,43,45,42,47]
def R6(c:UInt8):Bool:=Th.contains c
def CS(c:UInt8):Int:=if Di c then 2 else if JY c then 3 else if c.toNat==95 then 5 else if Lh c then 1 else if R6 c then 4 else 0
theorem NB{c:UInt8}(h:(97<=c.toNat∧c.toNat<=122)∨(65<=c.toNat∧c.toNat<=90)):CS c=2:=by
 have:Di c=true:=by simp[Di];omega
 simp[CS,this]
theorem nl{c:UInt8}(h:¬ ((97<=c.toNat∧c.toNat<=122)∨(65<=c.toNat∧c.toNat<=90))):Di c=false:=by
 rw[yj];simp[Di];omega
theorem Oq{c:UInt8}(h:48<=c.toNat∧c.toNat<=57):CS c=3:=by
 have:JY c=true:=by simp[JY];omega
 simp[CS,this,nl (c:=c) (by omega)]
theorem nd{c:UInt8}(h:¬ (48<=c.toNat∧c.toNat<=57)):JY c=false:=by
 rw[yj];simp[JY];omega
theorem Q2{c:UInt8}(h:c.toNat=95):CS c=5:=by
 simp[CS,nd (c:=c) (by omega),nl (c:=c) (by omega),h]
theorem Ot{c:UInt8}(h:c.toNat=32∨c.toNat=9∨c.toNat=10∨c.toNat=13):CS c=1:=by
 have:Lh c=true:=by simp[Lh];omega
 have h2:(c.toNat==95)=false:=by rw[yj];simp;omega
 simp[CS,nd (c:=c) (by omega),nl (c:=c) (by omega),h2,this]
theorem Q3{c:UInt8}(h:¬ ((97<=c.toNat∧c.toNat<=122)∨(65<=c.toNat∧c.toNat<=90)))(h1:¬ (48<=c.toNat∧c.toNat<=57))(h2:¬ c.toNat=95)
 (h3:¬ (c.toNat=32∨c.toNat=9∨c.toNat=10∨c.toNat=13)):CS c=if R6 c then 4 else 0:=by
 have h4:Lh c=false:=by rw[yj];simp[Lh];omega
 simp[CS,nd h1,nl h,h2,h4]
theorem Ti(c:UInt8):(decide (0<=Lib.indexByte Th ((c.toNat:Int)).toNat.toUInt8))=R6 c:=by
 have:((c.toNat:Int)).toNat.toUInt8=c:=by simp
 rw[this];exact (Lib.contains_iff_indexByte Th c).symm
theorem Q4(c:UInt8)(w:World):Calls Try.prog 97 #[.string {data:=#[123,125,40,41,59,44,61,58,46,60,62,33,43,45,42,47]},.int .u8 (c.toNat:Int)] w fun e w'=>∃n:Int,e=.returned (.int .i64 n)∧decide (0<=n)=R6 c∧w=w':=
 (Try.strings_IndexByte _ _ w).mono fun _ _ h=>⟨_,h.1,Ti c,h.2.symm⟩
theorem IC(c:UInt8)(w:World):
  Calls Try.prog 91 #[.int .u8 (c.toNat:Int)] w fun e w'=>e=.returned (.int .i64 (CS c))∧w=w':=by
 generalize hN:CS c=N
 have d:=yb hN;clear hN
 go_enter Try.func91,Try.ntmps91
 go_wp2_with (first|(go_at_call 97;refine (Q4 _ _).mono ?_;rintro e w' ⟨n,rfl,a,rfl⟩;have b:=yb a;clear a))
 all_goals
  go_ret
  refine ⟨KQ ?_,rfl⟩
  rw[<-d.o]
  try simp only[beq_iff_eq,beq_eq_false_iff_ne,ne_eq] at*
  first
  |exact (NB (by omega)).symm
  |exact (Oq (by omega)).symm
  |exact (Q2 (by omega)).symm
  |exact (Ot (by omega)).symm
  |(rw[Q3 (by omega) (by omega) (by omega) (by omega),<-b.o];simp[*])
def GK:List UInt8->Bool
 |[]=>false
 |c::r=>decide ((c::r).length<=32)&&Di c&&(c::r).all Gh
theorem RU(s:ByteArray)(k:Nat)(h:k < s.size):s.data.toList.take (k+1)=s.data.toList.take k++[s[k]]:=by
 rw[yt (by simpa using h)];rfl
theorem GA(s:ByteArray):s.data.toList.length=s.size:=by simp
theorem Ic{s:ByteArray}(h:0 < s.size):GK s.data.toList=(decide (s.size<=32)&&Di (s[0])&&s.data.toList.all Gh):=by
 obtain ⟨⟨l⟩⟩:=s
 cases l with
 |nil=>simp[ByteArray.size] at h
 |cons c r=>rfl
theorem Ou{s:ByteArray}(h:¬ 0 < s.size):GK s.data.toList=false:=by
 obtain ⟨⟨l⟩⟩:=s
 cases l with
 |nil=>rfl
 |cons c r=>simp[ByteArray.size] at h
theorem Q5{s:ByteArray}(h0:0 < s.size)(h:¬ s.size<=32):GK s.data.toList=false:=by rw[Ic h0];simp[h]
theorem Ov{s:ByteArray}(h0:0 < s.size)(h:Di s[0]=false):GK s.data.toList=false:=by rw[Ic h0];simp[h]
theorem Q6{s:ByteArray}{k:Nat}(hk:k < s.size)(h:Gh s[k]=false):GK s.data.toList=false:=by
 rw[Ic (by omega)]
 have:s.data.toList.all Gh=false:=by
  rw[xx]
  exact ⟨s[k],by rw[Array.mem_toList_iff];exact Array.getElem_mem _,by simp[h]⟩
 rw[this];simp
theorem RX{s:ByteArray}(h0:0 < s.size)(a:s.size<=32)(h:Di s[0]=true)(b:(s.data.toList.take s.size).all Gh=true):GK s.data.toList=true:=by
 rw[xV (by simp)] at b
 rw[Ic h0,b,h];simp[a]
theorem Tj{s:ByteArray}{k:Nat}(hk:k < s.size)(a:(s.data.toList.take k).all Gh=true)(h:Gh s[k]=true):(s.data.toList.take (k+1)).all Gh=true:=by
 rw[RU s k hk,zj,a];simp[h]
theorem Tk(P:UInt8->Bool)(h:(List.range 256).all (fun n=>P n.toUInt8)=true)(c:UInt8):P c=true:=by
 have:=yO.1 h c.toNat (by rw[z6];exact c.toNat_lt)
 simpa using this
theorem R7(c:UInt8):(CS c==2)=Di c:=by
 have:=Tk (fun c=>(CS c==2)==Di c) (by decide+kernel) c
 simpa using this
theorem KR(c:UInt8):(CS c==2||CS c==3||CS c==5)=Gh c:=by
 have:=Tk (fun c=>(CS c==2||CS c==3||CS c==5)==Gh c) (by decide+kernel) c
 simpa using this
theorem RY{s:ByteArray}(h:0 < s.size):s.toList.isEmpty=false:=by
 rw[zL,List.isEmpty_eq_false_iff];intro e;have:=GA s;rw[e] at this;simp at this;omega
theorem Tl{s:ByteArray}(h:¬ 0 < s.size):s.toList.isEmpty=true:=by
 rw[zL,List.isEmpty_iff,<-ze,GA];omega
theorem Tm(c:UInt8)(n:Int)(h:CS c=n)(w:World):
  Calls Try.prog 91 #[.int .u8 (c.toNat:Int)] w fun e w'=>e=.returned (.int .i64 n)∧w=w':=by
 rw[<-h];exact IC c w
theorem RZ{c:UInt8}(h:Di c=true):CS c=2:=by
 have:=R7 c
 rw[h] at this
 simpa using this
theorem Li(c:UInt8)(h:Di c=false)(w:World):
  Calls Try.prog 91 #[.int .u8 (c.toNat:Int)] w fun e w'=>∃n:Int,(n !=2)=true∧e=.returned (.int .i64 n)∧w=w':=
 (IC c w).mono fun _ _ a=>⟨_,by have:=R7 c;rw[h] at this;simpa using this,a⟩
theorem Q7(c:UInt8)(h:Gh c=true)(w:World):
  Calls Try.prog 91 #[.int .u8 (c.toNat:Int)] w fun e w'=>∃n:Int,(n=2∨n=3∨n=5)∧e=.returned (.int .i64 n)∧w=w':=
 (IC c w).mono fun _ _ a=>⟨_,by have:=KR c;rw[h] at this;simpa[or_assoc] using this,a⟩
theorem NC(c:UInt8)(h:Gh c=false)(w:World):
  Calls Try.prog 91 #[.int .u8 (c.toNat:Int)] w fun e w'=>∃n:Int,(n !=2)=true∧(n !=3)=true∧(n !=5)=true∧e=.returned (.int .i64 n)∧w=w':=
 (IC c w).mono fun _ _ a=>⟨_,by have:=KR c;rw[h] at this;simp at this;simp[this],by have:=KR c;rw[h] at this;simp at this;simp[this],by have:=KR c;rw[h] at this;simp at this;simp[this],a⟩
theorem Tn(s:ByteArray)(w:World)(hs:s.size<=maxLen):
  Calls Try.prog 69 #[.string s] w fun e w'=>e=.returned (.bool (GK s.data.toList))∧w=w':=by
 unfold maxLen at hs
 generalize hN:GK s.data.toList=N
 have a:=yb hN;clear hN
 by_cases h0:0 < s.size
 ·have h:=RY h0
  by_cases b:s.size<=32
  ·have m:decide (32 < (s.size:Int))=false:=by simp;omega
   by_cases hl:Di s[0]=true
   ·have f:=yb hl;clear hl
    go_enter Try.func69,Try.ntmps69
    go_wp2_with (first|(go_at_call 91;refine (Tm _ 2 (RZ f.o) _).mono ?_;rintro e w' ⟨rfl,rfl⟩))
    go_loop [3,4,20] (fun _ _ i=>∃k:Nat,k<=s.size∧i=iV k∧(s.data.toList.take k).all Gh=true) (fun _ _ i=>s.size - (intOf i).toNat)
    case atStart=>exact ⟨0,by omega,rfl,rfl⟩
    case round=>
     obtain ⟨k,hk,rfl,l⟩:=hrel
     have j:=yb l;clear l
     by_cases d:k < s.size
     ·by_cases g:Gh s[k]=true
      ·have c:=yb g;clear g
       go_wp2_with (first|(go_at_call 91;refine (Q7 _ c.o _).mono ?_;rintro e w' ⟨n1,(rfl|rfl|rfl),rfl,rfl⟩))
       all_goals exact ⟨⟨k+1,by omega,by go_num,Tj d j.o c.o⟩,by simp[intOf];omega⟩
      ·have c:=yb (yj.2 g);clear g
       go_wp2_with (first|(go_at_call 91;refine (NC _ c.o _).mono ?_;rintro e w' ⟨n1,c2,p,q,rfl,rfl⟩))
       go_ret
       exact ⟨BG (by rw[<-a.o,Q6 d c.o]),rfl⟩
     ·go_wp2
      go_ret
      obtain rfl:k=s.size:=by omega
      exact ⟨BG (by rw[<-a.o,RX h0 b f.o j.o]),rfl⟩
   ·have f:=yb (yj.2 hl);clear hl
    go_enter Try.func69,Try.ntmps69
    go_wp2_with (first|(go_at_call 91;refine (Li _ f.o _).mono ?_;rintro e w' ⟨n0,n,rfl,rfl⟩))
    go_ret
    exact ⟨BG (by rw[<-a.o,Ov h0 f.o]),rfl⟩
  ·go_enter Try.func69,Try.ntmps69
   go_wp2_with fail
   go_ret
   exact ⟨BG (by rw[<-a.o,Q5 h0 b]),rfl⟩
 ·have h:=Tl h0
  go_enter Try.func69,Try.ntmps69
  go_wp2_with fail
  go_ret
  exact ⟨BG (by rw[<-a.o,Ou h0]),rfl⟩
end Go.Proofs.Ytghepahgkcigpaa
namespace Go.Proofs.Ytghepahgkcigpaa
open Go.RowKit
attribute [local go_sem] Oper.semAt_some
def KS(J:Nat->NP->World->Prop)(Jx:NP->World->Prop)(Jp:List PanicEntry->NP->World->Prop)(O:NP)(k:Nat)(W:World)(e:Ending)(W':World):Prop:=
 (e=.returned (.bool true)∧J k O W'∧BL O W W')∨(e=.returned (.bool false)∧Jx O W'∧BL O W W')∨∃a,e=.panicked a∧Jp a O W'∧BL O W W'
theorem DA{O:NP}{W W':World}(h:BL O W W'){b o:Nat}(hb:O b){v:Value}(hc:W.cell? ⟨b,o,none⟩=some v):W'.cell? ⟨b,o,none⟩=some v:=by
 unfold World.cell? at hc ⊢
 rw[h.2 b hb];exact hc
theorem UU(n:Nat)(Q:1<=n)(l Bc g:Nat)(lt:Int)(ps:LV)(j:Nat)(O:NP)(J:Nat->NP->World->Prop)(Jx:NP->World->Prop)(Jp:List PanicEntry->NP->World->Prop)(W:World)
 (C:O Bc)(y:O g)(q:ps.length<=100)(hc:W.cell? ⟨Bc,0,none⟩=some (.func (.yield l) #[] #[]))(f:∀i (h:i < ps.length),W.cell? ⟨g,i,none⟩=some ps[i])(a:∀i (h:i < ps.length),∃p,ps[i]=.pointer (some p))
 (D:∀i (h:i < ps.length) W1,J (j+i) O W1->BL O W W1->YieldAt Fence.wide (n - 1) Try.prog l #[ps[i],.int .i64 lt] W1 (KS J Jx Jp O (j+i+1) W1))
 (h0:J j O W):
  CallsIn Fence.wide n Try.prog 90 #[.int .i64 lt,.slice (some ⟨g,0,none⟩) ps.length ps.length,.pointer (some ⟨Bc,0,none⟩)] W (KS J Jx Jp O (j+ps.length) W):=by
 have F:=yb hc
 have s:=yb f
 have H:=yb D
 have P:=yb h0
 have I:=yb C
 have w:=yb y
 have k:=yb a
 generalize hN:ps.length=N at q ⊢
 have G:=yb hN
 clear hc f D h0 hN C y a
 refine callsIn_of_wp Try.func90 rfl trivial ?_ rfl
 simp only[Try.ntmps90,yD,yI,yM,Nat.reduceAdd,Nat.reduceSub,zO,zP,xe,zU,zk,z8]
 gi_wp2
 gi_loopw [10] (fun r wr=>∃i:Nat,i<=N∧r=iV i∧Hid (J (j+i) O wr)∧Hid (BL O W wr)) (fun r _=>N - (intOf r).toNat)
 case atStart=>exact ⟨0,yC _,rfl,P,yb (BL.refl _ _)⟩
 case round=>
  obtain ⟨i,hi,rfl,x,c⟩:=hrel
  by_cases v:i < N
  ·have b:i < ps.length:=by rw[G.o];exact v
   have c0:=DA c.o I.o F.o
   have c1:=DA c.o w.o (s.o i b)
   obtain ⟨p,m⟩:=k.o i b
   obtain ⟨fn,tmps,assign,body,L,B⟩:=H.o i b wr x.o c.o
   rw[m] at c1 L
   have M:=yb B
   have E:(i:Int) < (N:Int):=by omega
   clear B m
   gi_wp2
   refine M.o.mono ?_
   rintro e R (⟨rfl,A,hs⟩|⟨rfl,z,hs⟩|⟨K,rfl,m,hs⟩)
   ·have u:=yb A
    have d:=yb (c.o.trans hs)
    clear A hs
    gi_wp2
    exact ⟨⟨i+1,by omega,by go_num,u,d⟩,by simp[intOf];omega⟩
   ·have t:=yb z
    have d:=yb (c.o.trans hs)
    clear z hs
    gi_wp2
    go_ret
    exact .inr (.inl ⟨rfl,t.o,d.o⟩)
   ·exact ⟨rfl,.inr (.inr ⟨K,rfl,m,c.o.trans hs⟩)⟩
  ·obtain rfl:i=N:=by omega
   gi_wp2
   go_ret
   exact .inl ⟨rfl,x.o,c.o⟩
end Go.Proofs.Ytghepahgkcigpaa
namespace Go.Proofs.Ytghepahgkcigpaa
open Go.RowKit
structure Ai where
 a:Option Addr
 n:Nat
 c:Nat
def Ai.v(h:Ai):Value:=.slice h.a h.n h.c
def Ai.at(h:Ai)(sz i off:Nat):Addr:=match h.a with
 |some ⟨b,o,_⟩=>⟨b,o+i*sz+off,none⟩
 |none=>⟨0,0,none⟩
def Ai.ptr(h:Ai)(sz i off:Nat):Value:=.pointer (some (h.at sz i off))
def Ai.ok(h:Ai):Prop:=h.n<=140737488355328∧(0 < h.n->∃b o,h.a=some ⟨b,o,none⟩)
theorem Ai.ok.get{h:Ai}(hk:h.ok){i:Nat}(hi:i < h.n):∃b o,h.a=some ⟨b,o,none⟩∧∀sz i off,h.at sz i off=⟨b,o+i*sz+off,none⟩:=by
 obtain ⟨b,o,c⟩:=hk.2 (by omega)
 exact ⟨b,o,c,fun sz i off=>by unfold Ai.at;rw[c]⟩
structure Bw where
 s:Nat
 lets:Ai
 crops:Ai
 reaches:Ai
 farms:Ai
 rots:Ai
 rights:Ai
 duties:Ai
 turns:List Ai
def one(p:Value)(lt:Int):List (Array Value):=[#[p,.int .i64 lt]]
def AB(ps:LV):List (Array Value):=ps.map fun p=>#[p,.int .i64 0]
def Ap(s:Nat):LV:=[.pointer (some ⟨s,1,none⟩),.pointer (some ⟨s,7,none⟩),.pointer (some ⟨s,13,none⟩)]
def KT(h:Ai)(i:Nat):LV:=[h.ptr 51 i 3,h.ptr 51 i 9,h.ptr 51 i 15,h.ptr 51 i 21,h.ptr 51 i 27,h.ptr 51 i 33,h.ptr 51 i 39,h.ptr 51 i 45]
def EM(h:Ai)(i:Nat):LV:=[h.ptr 23 i 4,h.ptr 23 i 10,h.ptr 23 i 16]
def KU(h:Ai)(i:Nat):LV:=[h.ptr 37 i 7,h.ptr 37 i 13,h.ptr 37 i 19,h.ptr 37 i 25,h.ptr 37 i 31]
def A4(L:Bw)(i:Nat):Ai:=L.turns.getD i ⟨none,0,0⟩
def AD(L:Bw)(n:Nat):List (Array Value):=(List.range n).flatMap fun i=> [#[L.lets.ptr 7 i 1,.int .i64 (1+(i:Int))]]
def Aq(L:Bw)(n:Nat):List (Array Value):=(List.range n).flatMap fun i=>AB [L.crops.ptr 7 i 1]
def Ad(L:Bw)(n:Nat):List (Array Value):=(List.range n).flatMap fun i=>AB (KT L.reaches i)
def AE(L:Bw)(n:Nat):List (Array Value):=(List.range n).flatMap fun i=>AB [L.farms.ptr 12 i 4]
def C8(h:Ai)(n:Nat):List (Array Value):=(List.range n).flatMap fun k=>AB [h.ptr 8 k 2]
def Bm(L:Bw)(n:Nat):List (Array Value):=(List.range n).flatMap fun i=>AB (EM L.rots i)++C8 (A4 L i) (A4 L i).n
def AV(L:Bw)(n:Nat):List (Array Value):=(List.range n).flatMap fun i=>AB (KU L.rights i)
def BI(L:Bw)(n:Nat):List (Array Value):=(List.range n).flatMap fun i=>AB [L.duties.ptr 11 i 5]
def Cd(L:Bw):List (Array Value):=
 AB (Ap L.s)++(AD L L.lets.n++(Aq L L.crops.n++(Ad L L.reaches.n++(AE L L.farms.n++(Bm L L.rots.n++(AV L L.rights.n++BI L L.duties.n))))))
structure Jo (L:Bw) (Bs:Nat) (W:World):Prop where
 box:W.cell? ⟨Bs,0,none⟩=some (.pointer (some ⟨L.s,0,none⟩))
 lets:W.cell? ⟨L.s,19,none⟩=some L.lets.v
 crops:W.cell? ⟨L.s,20,none⟩=some L.crops.v
 reaches:W.cell? ⟨L.s,21,none⟩=some L.reaches.v
 farms:W.cell? ⟨L.s,22,none⟩=some L.farms.v
 rots:W.cell? ⟨L.s,23,none⟩=some L.rots.v
 rights:W.cell? ⟨L.s,24,none⟩=some L.rights.v
 duties:W.cell? ⟨L.s,25,none⟩=some L.duties.v
 turns:∀i,i < L.rots.n->W.cell? (L.rots.at 23 i 22)=some (A4 L i).v
structure Bw.Ok (L:Bw):Prop where
 lets:L.lets.ok
 crops:L.crops.ok
 reaches:L.reaches.ok
 farms:L.farms.ok
 rots:L.rots.ok
 rights:L.rights.ok
 duties:L.duties.ok
 turns:∀i,i < L.rots.n->(A4 L i).ok
theorem BO{α:Type}(f:Nat->List α){n i:Nat}(h:i < n):∃post,(List.range n).flatMap f=(List.range i).flatMap f++(f i++post):=by
 obtain ⟨m,rfl⟩:∃m,n=(i+1)+m:=⟨n - (i+1),by omega⟩
 rw[List.range_add,zG,List.range_succ,zG]
 exact ⟨_,by simp[yp];rfl⟩
theorem Ar{α:Type}(f:Nat->List α)(i:Nat):(List.range (i+1)).flatMap f=(List.range i).flatMap f++f i:=by
 rw[List.range_succ,zG];simp
structure Xo (n l:Nat) (P:Program) (xs:List (Array Value)) (Hd:World->Prop) (J:Nat->(Nat->Prop)->World->Prop) (Jx:(Nat->Prop)->World->Prop) (Jp:List PanicEntry->(Nat->Prop)->World->Prop) (W0:World):Prop where
 stays:E6 J
 staysx:E6 (fun (_:Unit)=>Jx)
 hd:∀k O W,J k O W->Hd W
 hdx:∀O W,Jx O W->Hd W
 round:∀k (hk:k < xs.length) O W1,J k O W1->W0.heap.size<=W1.heap.size->(∀b,O b->W0.heap.size<=b∧b < W1.heap.size)->YieldAt Fence.wide n P l xs[k] W1 (KS J Jx Jp O (k+1) W1)
structure J4 (J:Nat->(Nat->Prop)->World->Prop) (W0:World) (l Bc k:Nat) (O:Nat->Prop) (wr:World):Prop where
 j:J k O wr
 bc:O Bc
 box:wr.cell? ⟨Bc,0,none⟩=some (.func (.yield l) #[] #[])
 size:W0.heap.size<=wr.heap.size
 own:∀b,O b->W0.heap.size<=b∧b < wr.heap.size
section
variable{n l Bc k:Nat}{P:Program}{xs:List (Array Value)}{Hd:World->Prop}{J:Nat->NP->World->Prop}{Jx:NP->World->Prop}{Jp:List PanicEntry->NP->World->Prop}{W0 wr w2:World}{O:NP}
theorem F8{β:Type}{J:β->NP->World->Prop}(h:E6 J){s:β}{O:NP}{W W':World}(d:J s O W)(hb:Below W.heap.size W W'):J s (fun b=>O b∨(W.heap.size<=b∧b < W'.heap.size)) W':=
 h s O W _ W' d hb.size hb.os hb.tape hb.output (fun b _ a=>hb.block b a) (fun _ c=>c.elim .inl (fun h=>.inr h.1))
theorem J4.below(hc:Xo n l P xs Hd J Jx Jp W0)(h:J4 J W0 l Bc k O wr)(hb:Below wr.heap.size wr w2):J4 J W0 l Bc k (fun b=>O b∨(wr.heap.size<=b∧b < w2.heap.size)) w2:=
 ⟨F8 hc.stays h.j hb,.inl h.bc,(hb.cell (p:=⟨Bc,0,none⟩) (h.own _ h.bc).2).trans h.box,yl h.size hb.size,fun b a=>by
  rcases a with a|a
  ·have:=h.own b a;have:=hb.size;omega
  ·have:=h.size;omega⟩
def Xu(J:Nat->NP->World->Prop)(Jx:NP->World->Prop)(Jp:List PanicEntry->NP->World->Prop)(W0:World)(l Bc k:Nat)(e:Ending)(W':World):Prop:=
 (∃r:Bool,e=.returned (.bool r)∧((r=true∧∃a,J4 J W0 l Bc k a W')∨(r=false∧∃a,Jx a W')))∨∃b,e=.panicked b∧∃a,Jp b a W'
theorem DS(hc:Xo (n - 1) l Try.prog xs Hd J Jx Jp W0)(o:1<=n){pre:List (Array Value)}(h:J4 J W0 l Bc pre.length O wr)(lt:Int)(arr:Array Value)(N:Nat)(hN:arr.size=N)(t:TypeId)(d:∃post,xs=pre++(arr.toList.map (fun p=>#[p,.int .i64 lt])++post))(k:N<=100)(c:∀p∈arr.toList,∃q,p=.pointer (some q))(g:Nat)(s:g=wr.heap.size):
  Calls Try.prog 90 #[.int .i64 lt,.slice (some ⟨g,0,none⟩) N N,.pointer (some ⟨Bc,0,none⟩)] (wr.alloc (.cells arr t)) (Xu J Jx Jp W0 l Bc (pre.length+N)):=by
 subst hN s
 have hb:Below wr.heap.size wr (wr.alloc (.cells arr t)):=(yg _ _).alloc (yf _) _
 have h2:=h.below hc hb
 have a:arr.toList.length=arr.size:=by simp
 refine za.1 ((UU n o l Bc wr.heap.size lt arr.toList pre.length _ J Jx Jp _ h2.bc (.inr ⟨yf _,by simp⟩) (by rw[a];exact k) h2.box (fun i hi=>?_) (fun i hi=>c _ (yz hi)) (fun i hi W1 f hs=>?_) h2.j).mono ?_)
 ·have:(wr.alloc (.cells arr t)).heap[wr.heap.size]?=some (.cells arr t (0,0)):=World.alloc_heap_new _ _
  simp only[World.cell?,this]
  simp[a▸hi]
 ·obtain ⟨post,d⟩:=d
  have hk:pre.length+i < xs.length:=by rw[d];simp;simp at hi;omega
  have u:xs[pre.length+i]=#[arr.toList[i],iV lt]:=by
   subst d
   rw[qf (by omega)]
   simp only[xN]
   rw[ql (by simpa using hi),zF]
  have:=hc.round (pre.length+i) hk _ W1 f (yl h2.size hs.1) (fun b hb=>by have:=h2.own b hb;have:=hs.1;omega)
  rw[u] at this
  exact this
 ·rintro e W' (⟨rfl,f,hs⟩|⟨rfl,m,hs⟩|⟨r,rfl,v,_⟩)
  ·rw[a] at f
   exact .inl ⟨true,rfl,.inl ⟨rfl,_,f,h2.bc,DA hs h2.bc h2.box,yl h2.size hs.1,fun b hb=>by have:=h2.own b hb;have:=hs.1;omega⟩⟩
  ·exact .inl ⟨false,rfl,.inr ⟨rfl,_,m⟩⟩
  ·exact .inr ⟨r,rfl,_,v⟩
end
structure Rf where
 name:ByteArray
 n:Int
structure CF where
 name:ByteArray
 value:Ex
structure Br where
 name:ByteArray
 need:Ex
structure At where
 name:ByteArray
 frm:Rf
 delay:Ex
 cap:Ex
 bank:Ex
 siphon:Ex
 evap0:Ex
 evap1:Ex
 seep0:Ex
 seep1:Ex
structure Bd where
 name:ByteArray
 on:Rf
 river:Bool
 area:Ex
 crop:Rf
structure Bv where
 farm:Rf
 len:Ex
structure B6 where
 name:ByteArray
 on:Rf
 rank:Int
 flow:Ex
 frm:Ex
 to:Ex
 turns:List Bv
structure AG where
 kind:Int
 name:ByteArray
 farm:Rf
 reach:Rf
 rank:Int
 flow:Ex
 frm:Ex
 to:Ex
 every:Ex
 len:Ex
structure BR where
 name:ByteArray
 farm:Rf
 reach:Rf
 due:Ex
structure Am where
 name:ByteArray
 season:Ex
 cap:Ex
 start:Ex
 lets:List CF
 crops:List Br
 reaches:List At
 farms:List Bd
 rots:List B6
 rights:List AG
 duties:List BR
def Av{α:Type}(N:NP)(w:World)(sz:Nat)(P:LV->α->Prop)(h:Ai)(l:List α):Prop:=
 h.n=l.length∧l.length<=140737488355328∧∀i (hi:i < l.length),∃b o cs,h.a=some ⟨b,o,none⟩∧N b∧cs.length=sz∧w.rangeAt b (o+i*sz) cs∧P cs l[i]
def An(r:Rf):LV:=[.string r.name,.int .i64 r.n]
section
variable(N:NP)(w:World)
def GB(cs:LV)(d:CF):Prop:=d.name.size<=maxLen∧∃c,cs=.string d.name::c∧AS N w d.value c
def DZ(cs:LV)(d:Br):Prop:=d.name.size<=maxLen∧∃c,cs=.string d.name::c∧AS N w d.need c
def CT(cs:LV)(d:At):Prop:=d.name.size<=maxLen∧d.frm.name.size<=maxLen∧∃c0 c1 c2 a c4 b c e,cs=.string d.name::(An d.frm++(c0++(c1++(c2++(a++(c4++(b++(c++e))))))))∧
 AS N w d.delay c0∧AS N w d.cap c1∧AS N w d.bank c2∧AS N w d.siphon a∧AS N w d.evap0 c4∧AS N w d.evap1 b∧AS N w d.seep0 c∧AS N w d.seep1 e
def E7(cs:LV)(d:Bd):Prop:=d.name.size<=maxLen∧d.on.name.size<=maxLen∧d.crop.name.size<=maxLen∧∃c,cs=.string d.name::(An d.on++(.bool d.river::(c++An d.crop)))∧AS N w d.area c
def E0(cs:LV)(d:Bv):Prop:=d.farm.name.size<=maxLen∧∃c,cs=An d.farm++c∧AS N w d.len c
def Hc(h:Ai)(cs:LV)(d:B6):Prop:=d.name.size<=maxLen∧d.on.name.size<=maxLen∧∃c0 c1 c2,cs=.string d.name::(An d.on++(.int .i64 d.rank::(c0++(c1++(c2++[h.v])))))∧
 AS N w d.flow c0∧AS N w d.frm c1∧AS N w d.to c2∧Av N w 8 (E0 N w) h d.turns
def CU(cs:LV)(d:AG):Prop:=d.name.size<=maxLen∧d.farm.name.size<=maxLen∧d.reach.name.size<=maxLen∧∃c0 c1 c2 a c4,cs=.int .i64 d.kind::.string d.name::(An d.farm++(An d.reach++(.int .i64 d.rank::(c0++(c1++(c2++(a++c4)))))))∧
 AS N w d.flow c0∧AS N w d.frm c1∧AS N w d.to c2∧AS N w d.every a∧AS N w d.len c4
def E8(cs:LV)(d:BR):Prop:=d.name.size<=maxLen∧d.farm.name.size<=maxLen∧d.reach.name.size<=maxLen∧∃c,cs=.string d.name::(An d.farm++(An d.reach++c))∧AS N w d.due c
structure Bb (L:Bw) (cs:List Value) (x:Am):Prop where
 name:x.name.size<=maxLen
 cells:∃c0 c1 c2,cs=.string x.name::(c0++(c1++(c2++[L.lets.v,L.crops.v,L.reaches.v,L.farms.v,L.rots.v,L.rights.v,L.duties.v])))∧AS N w x.season c0∧AS N w x.cap c1∧AS N w x.start c2
 lets:Av N w 7 (GB N w) L.lets x.lets
 crops:Av N w 7 (DZ N w) L.crops x.crops
 reaches:Av N w 51 (CT N w) L.reaches x.reaches
 farms:Av N w 12 (E7 N w) L.farms x.farms
 rots:L.rots.n=x.rots.length∧x.rots.length<=140737488355328∧∀i (hi:i < x.rots.length),∃b o cs,L.rots.a=some ⟨b,o,none⟩∧N b∧cs.length=23∧w.rangeAt b (o+i*23) cs∧Hc N w (A4 L i) cs x.rots[i]
 rights:Av N w 37 (CU N w) L.rights x.rights
 duties:Av N w 11 (E8 N w) L.duties x.duties
end
section
variable{N N':NP}{w w':World}
theorem Av.same{α:Type}{sz:Nat}{P c:LV->α->Prop}{h:Ai}{l:List α}(e:∀b,N b->N' b)(hb:∀b,N b->w'.heap[b]?=w.heap[b]?)(m:∀cs d,P cs d->c cs d)(g:Av N w sz P h l):Av N' w' sz c h l:=by
 obtain ⟨h1,h2,h3⟩:=g
 refine ⟨h1,h2,fun i hi=>?_⟩
 obtain ⟨b,o,cs,g1,a,j,f,k⟩:=h3 i hi
 exact ⟨b,o,cs,g1,e b a,j,A2 f (hb b a),m _ _ k⟩
theorem Av.ok{α:Type}{sz:Nat}{P:LV->α->Prop}{h:Ai}{l:List α}(a:Av N w sz P h l):h.ok:=by
 obtain ⟨h1,h2,h3⟩:=a
 refine ⟨by omega,fun c=>?_⟩
 obtain ⟨b,o,_,g1,_⟩:=h3 0 (by omega)
 exact ⟨b,o,g1⟩
theorem GB.same(a:∀b,N b->N' b)(hb:∀b,N b->w'.heap[b]?=w.heap[b]?){cs:LV}{d:CF}(h:GB N w cs d):GB N' w' cs d:=by
 obtain ⟨h1,c,h2,h3⟩:=h
 exact ⟨h1,c,h2,h3.same a hb⟩
theorem DZ.same(a:∀b,N b->N' b)(hb:∀b,N b->w'.heap[b]?=w.heap[b]?){cs:LV}{d:Br}(h:DZ N w cs d):DZ N' w' cs d:=by
 obtain ⟨h1,c,h2,h3⟩:=h
 exact ⟨h1,c,h2,h3.same a hb⟩
theorem CT.same(a:∀b,N b->N' b)(hb:∀b,N b->w'.heap[b]?=w.heap[b]?){cs:LV}{d:At}(h:CT N w cs d):CT N' w' cs d:=by
 obtain ⟨h1,h2,c0,c1,c2,k,c4,l,f,i,h3,e,g1,m,n,c,o,g,j⟩:=h
 exact ⟨h1,h2,c0,c1,c2,k,c4,l,f,i,h3,e.same a hb,g1.same a hb,m.same a hb,n.same a hb,c.same a hb,o.same a hb,g.same a hb,j.same a hb⟩
theorem E7.same(a:∀b,N b->N' b)(hb:∀b,N b->w'.heap[b]?=w.heap[b]?){cs:LV}{d:Bd}(h:E7 N w cs d):E7 N' w' cs d:=by
 obtain ⟨h1,h2,h3,c,h4,g⟩:=h
 exact ⟨h1,h2,h3,c,h4,g.same a hb⟩
theorem E0.same(a:∀b,N b->N' b)(hb:∀b,N b->w'.heap[b]?=w.heap[b]?){cs:LV}{d:Bv}(h:E0 N w cs d):E0 N' w' cs d:=by
 obtain ⟨h1,c,h2,g⟩:=h
 exact ⟨h1,c,h2,g.same a hb⟩
theorem Hc.same(a:∀b,N b->N' b)(hb:∀b,N b->w'.heap[b]?=w.heap[b]?){t:Ai}{cs:LV}{d:B6}(h:Hc N w t cs d):Hc N' w' t cs d:=by
 obtain ⟨h1,h2,c0,c1,c2,h3,f,g1,c,e⟩:=h
 exact ⟨h1,h2,c0,c1,c2,h3,f.same a hb,g1.same a hb,c.same a hb,e.same a hb (fun _ _ h=>h.same a hb)⟩
theorem CU.same(a:∀b,N b->N' b)(hb:∀b,N b->w'.heap[b]?=w.heap[b]?){cs:LV}{d:AG}(h:CU N w cs d):CU N' w' cs d:=by
 obtain ⟨h1,h2,h3,c0,c1,c2,f,c4,h4,e,g1,g,i,c⟩:=h
 exact ⟨h1,h2,h3,c0,c1,c2,f,c4,h4,e.same a hb,g1.same a hb,g.same a hb,i.same a hb,c.same a hb⟩
theorem E8.same(a:∀b,N b->N' b)(hb:∀b,N b->w'.heap[b]?=w.heap[b]?){cs:LV}{d:BR}(h:E8 N w cs d):E8 N' w' cs d:=by
 obtain ⟨h1,h2,h3,c,h4,g⟩:=h
 exact ⟨h1,h2,h3,c,h4,g.same a hb⟩
theorem Bb.same(a:∀b,N b->N' b)(hb:∀b,N b->w'.heap[b]?=w.heap[b]?){L:Bw}{cs:LV}{x:Am}(h:Bb N w L cs x):Bb N' w' L cs x:=by
 refine ⟨h.name,?_,h.lets.same a hb (fun _ _ h=>h.same a hb),h.crops.same a hb (fun _ _ h=>h.same a hb),h.reaches.same a hb (fun _ _ h=>h.same a hb),h.farms.same a hb (fun _ _ h=>h.same a hb),?_,h.rights.same a hb (fun _ _ h=>h.same a hb),h.duties.same a hb (fun _ _ h=>h.same a hb)⟩
 ·obtain ⟨c0,c1,c2,h1,e,g1,c⟩:=h.cells
  exact ⟨c0,c1,c2,h1,e.same a hb,g1.same a hb,c.same a hb⟩
 ·obtain ⟨h1,h2,h3⟩:=h.rots
  refine ⟨h1,h2,fun i hi=>?_⟩
  obtain ⟨b,o,cs,g1,c,f,d,g⟩:=h3 i hi
  exact ⟨b,o,cs,g1,a b c,f,A2 d (hb b c),g.same a hb⟩
theorem Bb.ok{L:Bw}{cs:LV}{x:Am}(h:Bb N w L cs x):L.Ok:=by
 obtain ⟨h1,h2,h3⟩:=h.rots
 refine ⟨h.lets.ok,h.crops.ok,h.reaches.ok,h.farms.ok,⟨by omega,fun a=>?_⟩,h.rights.ok,h.duties.ok,fun i hi=>?_⟩
 ·obtain ⟨b,o,_,g1,_⟩:=h3 0 (by omega)
  exact ⟨b,o,g1⟩
 ·obtain ⟨_,_,_,_,_,_,_,g⟩:=h3 i (by omega)
  obtain ⟨_,_,_,_,_,_,_,_,_,g⟩:=g
  exact g.ok
end
def Az{α β:Type}(R:α->β->Prop):List α->List β->Prop
 |[],[]=>True
 |a::l,b::m=>R a b∧Az R l m
 |_,_=>False
section
variable{α β:Type}{R:α->β->Prop}
theorem Az.append:∀ {l:List α} {m:List β} {l':List α} {a:List β},Az R l m->Az R l' a->Az R (l++l') (m++a)
 |[],[],_,_,_,h=>h
 |_::_,_::_,_,_,h,h'=>⟨h.1,h.2.append h'⟩
 |[],_::_,_,_,h,_=>h.elim
 |_::_,[],_,_,h,_=>h.elim
theorem Az.length:∀ {l:List α} {m:List β},Az R l m->l.length=m.length
 |[],[],_=>rfl
 |_::_,_::_,h=>by simp[h.2.length]
 |[],_::_,h=>h.elim
 |_::_,[],h=>h.elim
theorem Az.get:∀ {l:List α} {m:List β},Az R l m->∀i (h:i < l.length) (a:i < m.length),R l[i] m[i]
 |[],_,_,i,h,_=>by simp at h
 |_::_,_::_,h,0,_,_=>h.1
 |_::_,_::_,h,i+1,h1,h2=>h.2.get i (by simpa using h1) (by simpa using h2)
 |_::_,[],h,_,_,_=>h.elim
theorem Az.mono{R':α->β->Prop}(c:∀a b,R a b->R' a b):∀ {l:List α} {m:List β},Az R l m->Az R' l m
 |[],[],h=>h
 |_::_,_::_,h=>⟨c _ _ h.1,h.2.mono c⟩
 |[],_::_,h=>h.elim
 |_::_,[],h=>h.elim
theorem MD{γ:Type}(f:Nat->List α)(g:Nat->γ->List β):∀(l:List γ) (k:Nat),(∀i (h:i < l.length),Az R (f (k+i)) (g (k+i) l[i]))->Az R ((List.range' k l.length).flatMap f) ((l.zipIdx k).flatMap fun p=>g p.2 p.1)
 |[],_,_=>by simp[Az]
 |x::r,k,h=>by
  rw[yI,List.range'_succ,zv,List.zipIdx_cons,zv]
  refine (h 0 (by simp)).append (MD f g r (k+1) fun i hi=>?_)
  have:=h (i+1) (by simpa using hi)
  rw[show k+1+i=k+(i+1) by omega]
  simpa using this
theorem Bt{γ:Type}(f:Nat->List α)(g:Nat->γ->List β)(l:List γ)(n:Nat)(a:n=l.length)(h:∀i (h:i < l.length),Az R (f i) (g i l[i])):Az R ((List.range n).flatMap f) (l.zipIdx.flatMap fun p=>g p.2 p.1):=by
 subst a
 rw[List.range_eq_range']
 exact MD f g l 0 (fun i hi=>by rw[yB];exact h i hi)
end
abbrev KD:=Ex × Int
def Ie(l:List CF):List KD:=l.zipIdx.flatMap fun p=> [(p.1.value,1+(p.2:Int))]
def Fu(l:List Br):List KD:=l.zipIdx.flatMap fun p=> [(p.1.need,0)]
def Du(l:List At):List KD:=l.zipIdx.flatMap fun p=> [(p.1.delay,0),(p.1.cap,0),(p.1.bank,0),(p.1.siphon,0),(p.1.evap0,0),(p.1.evap1,0),(p.1.seep0,0),(p.1.seep1,0)]
def Fv(l:List Bd):List KD:=l.zipIdx.flatMap fun p=> [(p.1.area,0)]
def DD(l:List Bv):List KD:=l.zipIdx.flatMap fun p=> [(p.1.len,0)]
def HY(l:List B6):List KD:=l.zipIdx.flatMap fun p=> [(p.1.flow,0),(p.1.frm,0),(p.1.to,0)]++DD p.1.turns
def Eo(l:List AG):List KD:=l.zipIdx.flatMap fun p=> [(p.1.flow,0),(p.1.frm,0),(p.1.to,0),(p.1.every,0),(p.1.len,0)]
def Ep(l:List BR):List KD:=l.zipIdx.flatMap fun p=> [(p.1.due,0)]
def AN(x:Am):List KD:=
 [(x.season,0),(x.cap,0),(x.start,0)]++(Ie x.lets++(Fu x.crops++(Du x.reaches++(Fv x.farms++(HY x.rots++(Eo x.rights++Ep x.duties))))))
def Xv(N:NP)(s:Nat)(w:World)(a:Array Value)(e:KD):Prop:=
 ∃b o cs,a=#[.pointer (some ⟨b,o,none⟩),.int .i64 e.2]∧(b=s∨N b)∧w.rangeAt b o cs∧AS N w e.1 cs
theorem AO{w:World}{b o:Nat}{p c q:LV}(h:w.rangeAt b o (p++(c++q))):w.rangeAt b (o+p.length) c:=fun j v a=>by
 have d:=(yA.1 a).1
 have:=h (p.length+j) v (by rw[yL (by omega),xN,zC d];exact a)
 rw[show o+p.length+j=o+(p.length+j) by omega];exact this
theorem AS.len{N:NP}{w:World}{e:Ex}{c:LV}(h:AS N w e c):c.length=6:=by
 obtain ⟨a,cap,rfl,_⟩:=h.cells;rfl
theorem D8{N:NP}{s:Nat}{w:World}{h:Ai}{b o sz i off:Nat}{p c q:LV}{e:Ex}(lt:Int)(a:∀sz i off,h.at sz i off=⟨b,o+i*sz+off,none⟩)(hb:b=s∨N b){cs:LV}(f:w.rangeAt b (o+i*sz) cs)(hc:cs=p++(c++q))(d:p.length=off)(g:AS N w e c):
  Xv N s w #[h.ptr sz i off,.int .i64 lt] (e,lt):=by
 subst hc
 refine ⟨b,o+i*sz+off,c,?_,hb,?_,g⟩
 ·unfold Ai.ptr;rw[a]
 ·have:=AO f
  rw[d] at this;exact this
theorem Be{h:Ai}{b o:Nat}(c:h.a=some ⟨b,o,none⟩):∀sz i off,h.at sz i off=⟨b,o+i*sz+off,none⟩:=fun sz i off=>by unfold Ai.at;rw[c]
theorem A8(r:Rf):(An r).length=2:=rfl
section
variable{N:NP}{w:World}{L:Bw}{cs:LV}{x:Am}
theorem Ja(h:Bb N w L cs x)(C:w.rangeAt L.s 0 cs):Az (Xv N L.s w) (Cd L) (AN x):=by
 refine Az.append ?_ (Az.append ?_ (Az.append ?_ (Az.append ?_ (Az.append ?_ (Az.append ?_ (Az.append ?_ ?_))))))
 ·obtain ⟨c0,c1,c2,rfl,E,g1,a⟩:=h.cells
  have f:=E.len
  have g:=g1.len
  refine ⟨⟨L.s,1,c0,rfl,.inl rfl,?_,E⟩,⟨L.s,7,c1,rfl,.inl rfl,?_,g1⟩,⟨L.s,13,c2,rfl,.inl rfl,?_,a⟩,trivial⟩
  ·exact AO (p:=[.string x.name]) (o:=0) C
  ·have:=AO (p:=.string x.name::c0) (c:=c1) (q:=c2++[L.lets.v,L.crops.v,L.reaches.v,L.farms.v,L.rots.v,L.rights.v,L.duties.v]) (o:=0) (b:=L.s) (w:=w) (by simpa using C)
   simpa[f] using this
  ·have:=AO (p:=.string x.name::(c0++c1)) (c:=c2) (q:=[L.lets.v,L.crops.v,L.reaches.v,L.farms.v,L.rots.v,L.rights.v,L.duties.v]) (o:=0) (b:=L.s) (w:=w) (by simpa using C)
   simpa[f,g] using this
 ·obtain ⟨h1,h2,h3⟩:=h.lets
  refine Bt _ (fun i (d:CF)=> [(d.value,1+(i:Int))]) x.lets _ h1 fun i hi=>?_
  obtain ⟨b,o,cs,g1,a,t,e,_,c,rfl,j⟩:=h3 i hi
  exact ⟨D8 (p:=[.string (x.lets[i]).name]) (q:=[]) _ (Be g1) (.inr a) e (by simp) rfl j,trivial⟩
 ·obtain ⟨h1,h2,h3⟩:=h.crops
  refine Bt _ (fun i (d:Br)=> [(d.need,0)]) x.crops _ h1 fun i hi=>?_
  obtain ⟨b,o,cs,g1,a,t,e,_,c,rfl,j⟩:=h3 i hi
  exact ⟨D8 (p:=[.string (x.crops[i]).name]) (q:=[]) _ (Be g1) (.inr a) e (by simp) rfl j,trivial⟩
 ·obtain ⟨h1,h2,h3⟩:=h.reaches
  refine Bt _ (fun i (d:At)=> [(d.delay,0),(d.cap,0),(d.bank,0),(d.siphon,0),(d.evap0,0),(d.evap1,0),(d.seep0,0),(d.seep1,0)]) x.reaches _ h1 fun i hi=>?_
  obtain ⟨b,o,cs,g1,a,t,e,_,_,c0,c1,c2,y,c4,G,K,O,rfl,n,l,r,z,A,H,D,I⟩:=h3 i hi
  generalize x.reaches[i]=d at*
  have f:=n.len;have g:=l.len;have m:=r.len;have u:=z.len;have B:=A.len;have F:=H.len;have M:=D.len
  refine ⟨?_,?_,?_,?_,?_,?_,?_,?_,trivial⟩
  ·exact D8 (p:=.string d.name::An d.frm) _ (Be g1) (.inr a) e (by simp;rfl) rfl n
  ·exact D8 (p:=.string d.name::(An d.frm++c0)) _ (Be g1) (.inr a) e (by simp;rfl) (by simp[A8,f]) l
  ·exact D8 (p:=.string d.name::(An d.frm++(c0++c1))) _ (Be g1) (.inr a) e (by simp;rfl) (by simp[A8,f,g]) r
  ·exact D8 (p:=.string d.name::(An d.frm++(c0++(c1++c2)))) _ (Be g1) (.inr a) e (by simp;rfl) (by simp[A8,f,g,m]) z
  ·exact D8 (p:=.string d.name::(An d.frm++(c0++(c1++(c2++y))))) _ (Be g1) (.inr a) e (by simp;rfl) (by simp[A8,f,g,m,u]) A
  ·exact D8 (p:=.string d.name::(An d.frm++(c0++(c1++(c2++(y++c4)))))) _ (Be g1) (.inr a) e (by simp;rfl) (by simp[A8,f,g,m,u,B]) H
  ·exact D8 (p:=.string d.name::(An d.frm++(c0++(c1++(c2++(y++(c4++G))))))) _ (Be g1) (.inr a) e (by simp;rfl) (by simp[A8,f,g,m,u,B,F]) D
  ·exact D8 (p:=.string d.name::(An d.frm++(c0++(c1++(c2++(y++(c4++(G++K)))))))) (q:=[]) _ (Be g1) (.inr a) e (by simp) (by simp[A8,f,g,m,u,B,F,M]) I
 ·obtain ⟨h1,h2,h3⟩:=h.farms
  refine Bt _ (fun i (d:Bd)=> [(d.area,0)]) x.farms _ h1 fun i hi=>?_
  obtain ⟨b,o,cs,g1,a,t,e,_,_,_,c,rfl,j⟩:=h3 i hi
  generalize x.farms[i]=d at*
  exact ⟨D8 (p:=.string d.name::(An d.on++[.bool d.river])) _ (Be g1) (.inr a) e (by simp;rfl) rfl j,trivial⟩
 ·obtain ⟨h1,h2,h3⟩:=h.rots
  refine Bt _ (fun i (d:B6)=> [(d.flow,0),(d.frm,0),(d.to,0)]++DD d.turns) x.rots _ h1 fun i hi=>?_
  obtain ⟨b,o,cs,g1,a,t,e,_,_,c0,c1,c2,rfl,n,l,r,J⟩:=h3 i hi
  generalize x.rots[i]=d at*
  have f:=n.len;have g:=l.len
  refine Az.append ⟨?_,?_,?_,trivial⟩ ?_
  ·exact D8 (p:=.string d.name::(An d.on++[iV d.rank])) _ (Be g1) (.inr a) e (by simp;rfl) rfl n
  ·exact D8 (p:=.string d.name::(An d.on++(iV d.rank::c0))) _ (Be g1) (.inr a) e (by simp;rfl) (by simp[A8,f]) l
  ·exact D8 (p:=.string d.name::(An d.on++(iV d.rank::(c0++c1)))) _ (Be g1) (.inr a) e (by simp;rfl) (by simp[A8,f,g]) r
  ·obtain ⟨h1,h2,h3⟩:=J
   refine Bt _ (fun k (d:Bv)=> [(d.len,0)]) d.turns _ h1 fun k hk=>?_
   obtain ⟨b,o,cs,g1,a,t,e,_,c,rfl,j⟩:=h3 k hk
   exact ⟨D8 (p:=An (d.turns[k]).farm) (q:=[]) _ (Be g1) (.inr a) e (by simp) rfl j,trivial⟩
 ·obtain ⟨h1,h2,h3⟩:=h.rights
  refine Bt _ (fun i (d:AG)=> [(d.flow,0),(d.frm,0),(d.to,0),(d.every,0),(d.len,0)]) x.rights _ h1 fun i hi=>?_
  obtain ⟨b,o,cs,g1,a,t,e,_,_,_,c0,c1,c2,y,c4,rfl,n,l,r,z,A⟩:=h3 i hi
  generalize x.rights[i]=d at*
  have f:=n.len;have g:=l.len;have m:=r.len;have u:=z.len
  refine ⟨?_,?_,?_,?_,?_,trivial⟩
  ·exact D8 (p:=iV d.kind::.string d.name::(An d.farm++(An d.reach++[iV d.rank]))) _ (Be g1) (.inr a) e (by simp;rfl) rfl n
  ·exact D8 (p:=iV d.kind::.string d.name::(An d.farm++(An d.reach++(iV d.rank::c0)))) _ (Be g1) (.inr a) e (by simp;rfl) (by simp[A8,f]) l
  ·exact D8 (p:=iV d.kind::.string d.name::(An d.farm++(An d.reach++(iV d.rank::(c0++c1))))) _ (Be g1) (.inr a) e (by simp;rfl) (by simp[A8,f,g]) r
  ·exact D8 (p:=iV d.kind::.string d.name::(An d.farm++(An d.reach++(iV d.rank::(c0++(c1++c2)))))) _ (Be g1) (.inr a) e (by simp;rfl) (by simp[A8,f,g,m]) z
  ·exact D8 (p:=iV d.kind::.string d.name::(An d.farm++(An d.reach++(iV d.rank::(c0++(c1++(c2++y))))))) (q:=[]) _ (Be g1) (.inr a) e (by simp) (by simp[A8,f,g,m,u]) A
 ·obtain ⟨h1,h2,h3⟩:=h.duties
  refine Bt _ (fun i (d:BR)=> [(d.due,0)]) x.duties _ h1 fun i hi=>?_
  obtain ⟨b,o,cs,g1,a,t,e,_,_,_,c,rfl,j⟩:=h3 i hi
  generalize x.duties[i]=d at*
  exact ⟨D8 (p:=.string d.name::(An d.farm++An d.reach)) (q:=[]) _ (Be g1) (.inr a) e (by simp) rfl j,trivial⟩
theorem Lm(h:Bb N w L cs x)(l:w.rangeAt L.s 0 cs){Bs:Nat}(d:w.cell? ⟨Bs,0,none⟩=some (.pointer (some ⟨L.s,0,none⟩))):Jo L Bs w:=by
 obtain ⟨c0,c1,c2,rfl,m,g1,u⟩:=h.cells
 have t:=m.len;have n:=g1.len;have k:=u.len
 have a:=AO (p:=.string x.name::(c0++(c1++c2))) (c:=[L.lets.v,L.crops.v,L.reaches.v,L.farms.v,L.rots.v,L.rights.v,L.duties.v]) (q:=[]) (o:=0) (b:=L.s) (w:=w) (by simpa using l)
 have hl:(Value.string x.name::(c0++(c1++c2))).length=19:=by simp[t,n,k]
 rw[hl] at a
 refine ⟨d,a 0 _ rfl,a 1 _ rfl,a 2 _ rfl,a 3 _ rfl,a 4 _ rfl,a 5 _ rfl,a 6 _ rfl,fun i hi=>?_⟩
 obtain ⟨h1,h2,h3⟩:=h.rots
 obtain ⟨b,o,cs,j,z,y,r,_,_,g,e,f,rfl,e0,e1,e2,_⟩:=h3 i (by omega)
 rw[Be j]
 have:=AO (p:=.string (x.rots[i]'(by omega)).name::(An (x.rots[i]'(by omega)).on++(iV (x.rots[i]'(by omega)).rank::(g++(e++f))))) (c:=[(A4 L i).v]) (q:=[]) (o:=o+i*23) (b:=b) (w:=w) (by simpa using r)
 have hl:(Value.string (x.rots[i]'(by omega)).name::(An (x.rots[i]'(by omega)).on++(iV (x.rots[i]'(by omega)).rank::(g++(e++f))))).length=22:=by simp[A8,e0.len,e1.len,e2.len]
 rw[hl] at this
 exact this 0 _ rfl
end
structure Us where
 b:Nat
 o:Nat
 to:Int
 at_:Int
 name:ByteArray
 n:Int
def Us.v(u:Us):Array Value:=#[.agg #[.pointer (some ⟨u.b,u.o,none⟩),.int .i64 u.to,.int .i64 u.at_]]
def ND(op:Int)(len:Nat):Bool:=decide (1<=op)&&(decide (op<=6)&&(if 3<=op then decide (len=2) else decide (len=0)))
def Kt(op lt:Int):Int:=if op=2 then (if 0 < lt then 2 else 1) else 0
def Om(op lt:Int):Int:=if op=2 then (if 0 < lt then lt - 1 else 0) else 0
mutual
def Cx(w:World)(lt:Int):Ex->Nat->Nat->List Us × Bool
 |.mk op _ _ rn ri args,b,o=>if ND op args.length then (⟨b,o+3,Kt op lt,Om op lt,rn,ri⟩::(BN w lt args (w.cell? ⟨b,o+5,none⟩) 0).1,(BN w lt args (w.cell? ⟨b,o+5,none⟩) 0).2) else ([],false)
def BN(w:World)(lt:Int):List Ex->Option Value->Nat->List Us × Bool
 |[],_,_=>([],true)
 |e::r,v,i=>match v with
  |some (.slice (some ⟨b,o,none⟩) _ _)=>if (Cx w lt e b (o+i*6)).2 then ((Cx w lt e b (o+i*6)).1++(BN w lt r v (i+1)).1,(BN w lt r v (i+1)).2) else ((Cx w lt e b (o+i*6)).1,false)
  |_=>([],false)
end
theorem ME{w:World}{lt:Int}{b o n c:Nat}{e:Ex}:∀(l:List Ex) (i:Nat),BN w lt (l++[e]) (some (.slice (some ⟨b,o,none⟩) n c)) i=
  if (BN w lt l (some (.slice (some ⟨b,o,none⟩) n c)) i).2 then ((BN w lt l (some (.slice (some ⟨b,o,none⟩) n c)) i).1++(Cx w lt e b (o+(i+l.length)*6)).1,(Cx w lt e b (o+(i+l.length)*6)).2) else BN w lt l (some (.slice (some ⟨b,o,none⟩) n c)) i
 |[],i=>by
  simp only[zk,BN,yM,qm,zX]
  split
  ·rename_i h;simp[h]
  ·rename_i h;simp[h]
 |x::r,i=>by
  simp only[z8,BN,ME r (i+1),yI]
  rw[show i+(r.length+1)=i+1+r.length by omega]
  by_cases h1:(Cx w lt x b (o+i*6)).2=true
  ·simp only[h1,zX]
   by_cases h2:(BN w lt r (some (.slice (some ⟨b,o,none⟩) n c)) (i+1)).2=true
   ·simp[h2]
   ·simp[h2]
  ·simp[h1]
theorem MG{w:World}{lt:Int}{b o n c:Nat}:∀(l m:List Ex) (i:Nat),(BN w lt l (some (.slice (some ⟨b,o,none⟩) n c)) i).2=false->BN w lt (l++m) (some (.slice (some ⟨b,o,none⟩) n c)) i=BN w lt l (some (.slice (some ⟨b,o,none⟩) n c)) i
 |[],m,i,h=>by simp[BN] at h
 |x::r,m,i,h=>by
  simp only[BN,z8] at h ⊢
  by_cases h1:(Cx w lt x b (o+i*6)).2=true
  ·simp only[h1,zX] at h ⊢
   rw[MG r m (i+1) h]
  ·simp[h1]
theorem Ox{w:World}{lt:Int}{b o n c:Nat}:∀(l m:List Ex) (i:Nat),∃post,(BN w lt (l++m) (some (.slice (some ⟨b,o,none⟩) n c)) i).1=(BN w lt l (some (.slice (some ⟨b,o,none⟩) n c)) i).1++post
 |[],m,i=>⟨_,rfl⟩
 |x::r,m,i=>by
  simp only[BN,z8]
  by_cases h1:(Cx w lt x b (o+i*6)).2=true
  ·simp only[h1,zX]
   obtain ⟨post,a⟩:=Ox r m (i+1)
   exact ⟨post,by rw[a];simp⟩
  ·simp only[h1]
   exact ⟨[],by simp⟩
mutual
def S5(w:World)(C:Addr->Prop):Ex->Nat->Nat->Prop
 |.mk op _ _ _ _ args,b,o=>∃a cap,(w.cell? ⟨b,o,none⟩=some (.int .i64 op)∧C ⟨b,o,none⟩)∧(w.cell? ⟨b,o+5,none⟩=some (.slice a args.length cap)∧C ⟨b,o+5,none⟩)∧args.length<=140737488355328∧KE w C a 0 args
def KE(w:World)(C:Addr->Prop)(a:Option Addr):Nat->List Ex->Prop
 |_,[]=>True
 |i,e::r=>(∃b o,a=some ⟨b,o,none⟩∧S5 w C e b (o+i*6))∧KE w C a (i+1) r
end
theorem Oy{w:World}{C:Addr->Prop}{a:Option Addr}:∀ {l:List Ex} {k:Nat},KE w C a k l->∀i (h:i < l.length),∃b o,a=some ⟨b,o,none⟩∧S5 w C l[i] b (o+(k+i)*6)
 |[],_,_,i,h=>by simp at h
 |e::r,k,hr,i,h=>by
  rw[KE] at hr
  cases i with
  |zero=>exact hr.1
  |succ i=>
   obtain ⟨b,o,h1,h2⟩:=Oy hr.2 i (by simpa using h)
   exact ⟨b,o,h1,by rw[show k+(i+1)=k+1+i by omega];simpa using h2⟩
theorem S6{w:World}{lt:Int}{b o n c:Nat}{l:List Ex}{i:Nat}(h:i < l.length)(a:(BN w lt (l.take i) (some (.slice (some ⟨b,o,none⟩) n c)) 0).2=true):
  BN w lt (l.take (i+1)) (some (.slice (some ⟨b,o,none⟩) n c)) 0=((BN w lt (l.take i) (some (.slice (some ⟨b,o,none⟩) n c)) 0).1++(Cx w lt l[i] b (o+i*6)).1,(Cx w lt l[i] b (o+i*6)).2):=by
 have hl:(l.take i).length=i:=by rw[yP];omega
 rw[yt h,ME,a,yw rfl,hl,yB]
structure JZ (J:Nat->(Nat->Prop)->World->Prop) (O:Nat->Prop) (B0 l By Bi k:Nat) (W:World):Prop where
 j:J k O W
 size:B0<=W.heap.size
 own:∀b,O b->b < W.heap.size
 y:O By∧W.cell? ⟨By,0,none⟩=some (.func (.yield l) #[] #[])
 i:O Bi∧W.cell? ⟨Bi,0,none⟩=some (.func (.func 82) #[] #[.pointer (some ⟨By,0,none⟩),.pointer (some ⟨Bi,0,none⟩)])
section
variable{J:Nat->NP->World->Prop}{Jx:NP->World->Prop}{Jp:List PanicEntry->NP->World->Prop}{O:NP}{B0 l By Bi k k':Nat}{W W':World}
theorem JZ.below(d:E6 J)(h:JZ J O B0 l By Bi k W)(hb:Below W.heap.size W W'):JZ J O B0 l By Bi k W':=
 ⟨d k O W O W' h.j hb.size hb.os hb.tape hb.output (fun b _ a=>hb.block b a) (fun _=>.inl),yl h.size hb.size,fun b c=>yr (h.own b c) hb.size,
  ⟨h.y.1,(hb.cell (p:=⟨By,0,none⟩) (h.own _ h.y.1)).trans h.y.2⟩,⟨h.i.1,(hb.cell (p:=⟨Bi,0,none⟩) (h.own _ h.i.1)).trans h.i.2⟩⟩
theorem JZ.same(h:JZ J O B0 l By Bi k W)(c:J k' O W')(hs:BL O W W'):JZ J O B0 l By Bi k' W':=
 ⟨c,yl h.size hs.1,fun b a=>yr (h.own b a) hs.1,⟨h.y.1,DA hs h.y.1 h.y.2⟩,⟨h.i.1,DA hs h.i.1 h.i.2⟩⟩
theorem JZ.sameBelow(h:JZ J O B0 l By Bi k W)(hb:Below W.heap.size W W'):BL O W W':=⟨hb.size,fun b a=>hb.block b (h.own b a)⟩
def Oz(J:Nat->NP->World->Prop)(Jx:NP->World->Prop)(Jp:List PanicEntry->NP->World->Prop)(O:NP)(k:Nat)(ok:Bool)(W:World)(e:Ending)(W':World):Prop:=
 (∃r:Bool,e=.returned (.bool r)∧BL O W W'∧((r=true∧ok=true∧J k O W')∨(r=false∧Jx O W')))∨∃a,e=.panicked a∧Jp a O W'∧BL O W W'
theorem Oz.from(hs:BL O W W'){e:Ending}{a:World}{ok:Bool}(h:Oz J Jx Jp O k ok W' e a):Oz J Jx Jp O k ok W e a:=by
 rcases h with ⟨r,h1,h2,h3⟩|h
 ·exact .inl ⟨r,h1,hs.trans h2,h3⟩
 ·obtain ⟨b,h1,h2,h3⟩:=h
  exact .inr ⟨b,h1,h2,hs.trans h3⟩
end
end Go.Proofs.Ytghepahgkcigpaa
namespace Go.Proofs.Ytghepahgkcigpaa
open Go.RowKit Go.Maps Go.ChangeMaps Go.WideMaps Go.MapKept
open Go.WideElems (Fit rd rg pl rd_val elemAt)
theorem OM:Keyed Try.prog 9:=string_keyed j3
theorem VR(w:World):(zeroValue 3).run Try.prog w=.ok (.int .i64 0) w:=by kernel_rfl
def AR:LB->ByteArray->Option Nat
 |[],_=>none
 |x::r,s=>if x=s then some 0 else (AR r s).map (·+1)
theorem G1{l:LB}{s:ByteArray}(h:s∉l):AR l s=none:=by
 induction l with
 |nil=>rfl
 |cons x r ih=>
  rw[yK,not_or] at h
  rw[AR,yu (fun e=>h.1 e.symm),ih h.2];rfl
theorem GO{l:LB}{s:ByteArray}(h:s∈l):∃i,AR l s=some i∧∃h:i < l.length,l[i]=s:=by
 induction l with
 |nil=>simp at h
 |cons x r ih=>
  rw[AR]
  by_cases a:x=s
  ·rw[yw a]
   exact ⟨0,rfl,by simp,by simpa using a⟩
  ·rw[yu a]
   obtain ⟨i,h1,h2,h3⟩:=ih ((yK.1 h).resolve_left (fun e=>a e.symm))
   exact ⟨i+1,by rw[h1];rfl,by simpa using h2,by simpa using h3⟩
theorem Qk{l:LB}{x:ByteArray}(h:x∉l)(s:ByteArray):AR (l++[x]) s=if s=x then some l.length else AR l s:=by
 induction l with
 |nil=>
  simp only[zk,AR,yM]
  by_cases hs:s=x
  ·rw[yw hs,yw hs.symm]
  ·rw[yu hs,yu (fun e=>hs e.symm)];rfl
 |cons y r ih=>
  rw[yK,not_or] at h
  rw[z8,AR,AR,ih h.2]
  by_cases a:y=s
  ·rw[yw a,yw a]
   by_cases hs:s=x
   ·exact absurd (hs.symm.trans a.symm) h.1
   ·rw[yu hs]
  ·rw[yu a,yu a]
   by_cases hs:s=x
   ·rw[yw hs,yw hs];simp
   ·rw[yu hs,yu hs]
def Cq(w:World)(m:Nat)(nms:LB):Prop:=
 ∃es a,w.heap[m]?=some (.map es a)∧Fit (H:=Unit) Try.prog 9 (plainElem Try.prog 3) es a∧es.size=nms.length∧
  ∀s:ByteArray,s.size<=maxLen->∀b:DataW Unit,(DataW.map ((es.toList.map (rg Try.prog 9 (plainElem Try.prog 3))).foldr DataW.insert [])).atKey (.string s.data.toList) b=(match AR nms s with|some i=>.lit (.int .i64 (i:Int))|none=>b)
theorem Lu(w:World):Cq (w.alloc (.map #[] 0)) w.heap.size []:=
 ⟨#[],0,(MapKept.heap_alloc w _).1,⟨by simp,stamped_empty 0,by simp⟩,rfl,fun s _ a=>rfl⟩
theorem Cq.block{w w':World}{m:Nat}{nms:LB}(h:Cq w m nms)(hb:w'.heap[m]?=w.heap[m]?):Cq w' m nms:=by
 obtain ⟨es,a,h1,h2⟩:=h
 exact ⟨es,a,hb.trans h1,h2⟩
theorem Cq.lt{w:World}{m:Nat}{nms:LB}(h:Cq w m nms):m < w.heap.size:=by
 obtain ⟨es,a,h1,h2⟩:=h
 exact (ye.1 h1).1
theorem Cq.size{w:World}{m:Nat}{nms:LB}(h:Cq w m nms):∃es a,w.heap[m]?=some (.map es a)∧es.size=nms.length:=by
 obtain ⟨es,a,h1,_,h2,_⟩:=h
 exact ⟨es,a,h1,h2⟩
def J5(nms:LB)(s:ByteArray):Value:=
 match AR nms s with
 |some i=>.tuple #[.int .i64 (i:Int),.bool true]
 |none=>.tuple #[.int .i64 0,.bool false]
theorem Cq.look{w:World}{m:Nat}{nms:LB}(h:Cq w m nms)(s:ByteArray)(hs:s.size<=maxLen):
  (Instr.lookup 90 (.map (some m)) (.string s) true).run Try.prog w=.ok (J5 nms s) w:=by
 obtain ⟨es,g,hb,F,_,d⟩:=h
 have c:=keyOf_string_mk (P:=Try.prog) j3 hs
 rcases Maps.fit_look (t:=90) true OM j4 (VR w) hb F c with ⟨b,_,k⟩|⟨e0,y,_,_,b,n,l,_⟩
 ·rw[b]
  have h1:=k .nil
  rw[d s hs] at h1
  unfold J5
  cases f:AR nms s with
  |none=>rfl
  |some i=>rw[f] at h1;cases h1
 ·rw[b]
  obtain ⟨a,j,e,_⟩:=plainElem_int_inv (H:=Unit) qH n
  have h1:=l .nil
  rw[d s hs] at h1
  unfold J5
  cases f:AR nms s with
  |none=>rw[f,e] at h1;cases h1
  |some i=>
   rw[f,e] at h1
   simp only[DataW.lit.injEq,Lit.int.injEq,xW] at h1
   rw[j,<-h1];rfl
theorem Lv{H:Type}(p:Lit × DataW H):∀l:List (Lit × DataW H),p∈l.foldr DataW.insert []->p∈l
 |[],h=>h
 |x::r,h=>by
  rw[List.foldr_cons,mem_insert_iff] at h
  exact h.elim (fun e=>by rw[e];exact List.mem_cons_self) (fun h=>xF _ (Lv p r h))
theorem Cq.put{w:World}{m:Nat}{nms:LB}(h:Cq w m nms)(s:ByteArray)(hs:s.size<=maxLen)(q:s∉nms)(r:nms.length < 1000000):
  ∃w',(Instr.mapUpdate 90 (.map (some m)) (.string s) (.int .i64 (nms.length:Int))).run Try.prog w=.ok () w'∧Cq w' m (nms++[s])∧w.grownBy w' (some m):=by
 obtain ⟨es,l,hb,F,k,j⟩:=h
 have a:=keyOf_string_mk (P:=Try.prog) j3 hs
 have v:plainElem (H:=Unit) Try.prog 3 (iV (nms.length:Int))=some (.lit (.int .i64 (nms.length:Int)),[]):=plainElem_int qH (by simp only[Lit.wf,yv,yW];exact ⟨by have:IntKind.min .i64= -9223372036854775808:=rfl;omega,by have:IntKind.max .i64=9223372036854775807:=rfl;omega⟩)
 obtain ⟨f,b,g,F',c,_⟩:=Maps.fit_store (R':=plainElem Try.prog 3) (t:=90) OM j4 hb F (by unfold maxLen;omega) (fun _ _ _ _ r=>r) a v
 have n:∀x∈es.toList,x.key≠.string s:=by
  rcases Maps.fit_look (t:=90) true OM j4 (VR w) hb F a with ⟨_,h,_⟩|⟨e0,y,_,_,_,_,u,_⟩
  ·exact h
  ·have h1:=u .nil
   have h2:=u (.lit (.bool true))
   rw[j s hs,G1 q] at h1 h2
   rw[<-h1] at h2
   cases h2
 refine ⟨_,g,⟨f,b,heap_setBlock_same hb _,F',?_,?_⟩,⟨rfl,rfl,rfl,by simp[setBlock],fun i _ hi=>heap_setBlock_other hb _ (fun e=>hi (by rw[e]))⟩⟩
 ·have e1:f.size=((f.toList.map (rg Try.prog 9 (plainElem (H:=Unit) Try.prog 3))).foldr DataW.insert []).length:=by rw[length_sorted];simp
  rw[e1,c]
  unfold putKey
  rw[length_insert]
  have e2:=filter_all OM F a n
  have z:(((es.toList.map (rg Try.prog 9 (plainElem (H:=Unit) Try.prog 3))).foldr DataW.insert []).filter (notKey (.string s.data.toList)))=((es.toList.map (rg Try.prog 9 (plainElem (H:=Unit) Try.prog 3))).foldr DataW.insert []):=by
   rw[List.filter_eq_self] at e2 ⊢
   exact fun p o=>e2 p (Lv p _ o)
  rw[z,length_sorted]
  simp[k]
 ·intro t A B
  rw[c]
  have o:(DataW.map (putKey (.string s.data.toList) (.lit (.int .i64 (nms.length:Int))) ((es.toList.map (rg Try.prog 9 (plainElem (H:=Unit) Try.prog 3))).foldr DataW.insert [])))=(DataW.map ((es.toList.map (rg Try.prog 9 (plainElem (H:=Unit) Try.prog 3))).foldr DataW.insert [])).put (.string s.data.toList) (.lit (.int .i64 (nms.length:Int))):=rfl
  rw[o,Qk q]
  by_cases d:t=s
  ·subst d
   rw[yw rfl,atKey_put_same ⟨_,rfl⟩ (OM.key a)]
  ·rw[yu d,atKey_put_other (fun e=>d (by simp at e;exact ByteArray.ext (by simpa using e))),j t A]
end Go.Proofs.Ytghepahgkcigpaa
namespace Go.Proofs.Ytghepahgkcigpaa
open Go Go.RowKit
section
variable{P:Program}{ops:Array Oper}{Q:QT}{md:Region.Mode}{T:World->Prop}{k:Nat}
def Da(P:Program)(md:Region.Mode)(ops:Array Oper)(Q:QT)(T:World->Prop)(k:Nat):Nat->Array Bool->Act->World->Prop
 |0,listed,a,w=>Region.ready md ops listed=[]∧Q .normal a w
 |fuel+1,listed,a,w=>
  (Region.ready md ops listed=[]->Q .normal a w)∧
  ∀i∈Region.ready md ops listed,wpOp P ops Q i (fun b w'=>((listed.setIfInBounds i true).getD k true=false->T w')∧Da P md ops Q T k fuel (listed.setIfInBounds i true) b w') a w
theorem LC:∀(fuel:Nat) (b:Array Bool) (a:Act) (w:World),Da P md ops Q T k fuel b a w->wpAny P md ops Q fuel b a w
 |0,_,_,_,h=>h
 |fuel+1,_,_,_,h=>⟨h.1,fun i hi=>wpOp_mono (fun d w' c=>LC fuel _ d w' c.2) (h.2 i hi)⟩
theorem NL{i:Nat}{u:Oper}{v:Value}(hi:ops[i]?=some u)(n:∀(j:Nat) (o:Oper) cs b,ops[j]?=some o->o.op≠.select cs b)
 (N:∀c a w,Q (.panic c) (a.put u.dst v) w->Q (.panic c) a w)(s:k≠i)(F:∀ok,ops[k]?=some ok->∃e∈ok.after,Region.binds md e=true∧e.on=i):
  ∀(fuel:Nat) (d:Array Bool) (a:Act) (w:World),
   (∀j p,ops[j]?=some p->j≠i->d.getD j true=false->(∀e∈p.after,Region.binds md e=true->e.on≠i)->u.apart ops p=true)->
   i∈Region.ready md ops d->YieldsIf P ops T u v a->d.getD k true=false->T w->
   Da P md ops Q T k fuel (d.setIfInBounds i true) (a.put u.dst v) w->Da P md ops Q T k (fuel+1) d a w:=by
 intro fuel
 induction fuel with
 |zero=>
  intro d a w _ t C hk y H
  refine ⟨fun h=>(by rw[h] at t;cases t),fun j D=>?_⟩
  by_cases f:j=i
  ·subst f;exact C.wpOp hi y ⟨fun _=>y,H⟩
  ·have:=ready_mono D f
   rw[H.1] at this
   cases this
 |succ fuel ih=>
  intro d a w g t C hk y H
  refine ⟨fun h=>(by rw[h] at t;cases t),fun j D=>?_⟩
  by_cases f:j=i
  ·subst f;exact C.wpOp hi y ⟨fun _=>y,H⟩
  ·have h1:=H.2 j (ready_mono D f)
   obtain ⟨r,p,m,x⟩:=xp.1 D
   have q:∀e∈p.after,Region.binds md e=true->e.on≠i:=fun e K hb E=>by
    have h1:=x e K hb
    have h0:=(xp.1 t).1
    rw[E] at h1
    rcases zS i d.size with G|G
    ·simp[G] at h0 h1;rw[h0] at h1;cases h1
    ·simp[xh G] at h1
   have B:k≠j:=fun e=>by
    subst e
    obtain ⟨e,K,hb,I⟩:=F p m
    exact q e K hb I
   have h2:=wpOp_putIf m (g j p m f r q) (fun cs b=>n i u cs b hi) (fun cs b=>n j p cs b m) N C h1
   have l:∀k ok,ops[k]?=some ok->k≠i->(d.setIfInBounds j true).getD k true=false->
     (∀e∈ok.after,Region.binds md e=true->e.on≠i)->u.apart ops ok=true:=fun k ok hk s A L=>by
    refine g k ok hk s ?_ L
    by_cases z:j=k
    ·subst z;exact r
    ·rw[xb true z] at A;exact A
   have J:(d.setIfInBounds j true).getD k true=false:=by rw[xb true (xq B)];exact hk
   refine wpOp_mono (fun O w' h3=>?_) h2
   have M:T w':=h3.2.1 (by rw[xb true (xq B),xb true (xq s)];exact hk)
   refine ⟨fun _=>M,ih (d.setIfInBounds j true) O w' l (ready_mono t (xq f)) h3.1 J M ?_⟩
   rw[Array.setIfInBounds_comm _ _ f]
   exact h3.2.2
theorem Mo{i:Nat}{s:Oper}{v:Value}(hi:ops[i]?=some s)(n:∀(j:Nat) (o:Oper) cs b,ops[j]?=some o->o.op≠.select cs b)
 (J:∀c a w,Q (.panic c) (a.put s.dst v) w->Q (.panic c) a w)(g:k≠i):
  ∀(fuel:Nat) (d:Array Bool) (a:Act) (w:World),
   (∀j q,ops[j]?=some q->j≠i->d.getD j true=false->(∀e∈q.after,Region.binds md e=true->e.on≠i)->s.apart ops q=true)->
   i∈Region.ready md ops d->YieldsIf P ops (fun _=>True) s v a->(d.getD k true=false->T w)->
   Da P md ops Q T k fuel (d.setIfInBounds i true) (a.put s.dst v) w->Da P md ops Q T k (fuel+1) d a w:=by
 intro fuel
 induction fuel with
 |zero=>
  intro d a w _ r C F H
  refine ⟨fun h=>(by rw[h] at r;cases r),fun j D=>?_⟩
  by_cases f:j=i
  ·subst f;exact C.wpOp hi trivial ⟨fun h=>F (by rw[xb true (xq g)] at h;exact h),H⟩
  ·have:=ready_mono D f
   rw[H.1] at this
   cases this
 |succ fuel ih=>
  intro d a w l r C F H
  refine ⟨fun h=>(by rw[h] at r;cases r),fun j D=>?_⟩
  by_cases f:j=i
  ·subst f;exact C.wpOp hi trivial ⟨fun h=>F (by rw[xb true (xq g)] at h;exact h),H⟩
  ·have h1:=H.2 j (ready_mono D f)
   obtain ⟨p,q,t,x⟩:=xp.1 D
   have y:∀e∈q.after,Region.binds md e=true->e.on≠i:=fun e K hb E=>by
    have h1:=x e K hb
    have h0:=(xp.1 r).1
    rw[E] at h1
    rcases zS i d.size with u|u
    ·simp[u] at h0 h1;rw[h0] at h1;cases h1
    ·simp[xh u] at h1
   have h2:=wpOp_putIf t (l j q t f p y) (fun cs b=>n i s cs b hi) (fun cs b=>n j q cs b t) J C h1
   have m:∀k ok,ops[k]?=some ok->k≠i->(d.setIfInBounds j true).getD k true=false->
     (∀e∈ok.after,Region.binds md e=true->e.on≠i)->s.apart ops ok=true:=fun k ok hk g A G=>by
    refine l k ok hk g ?_ G
    by_cases z:j=k
    ·subst z;exact p
    ·rw[xb true z] at A;exact A
   refine wpOp_mono (fun L w' h3=>?_) h2
   have I:(d.setIfInBounds j true).getD k true=false->T w':=fun h=>h3.2.1 (by
    by_cases B:k=j
    ·subst B
     rcases zS k d.size with u|u
     ·simp[u] at h
     ·simp at h
    ·rw[xb true (xq B)] at h ⊢
     rw[xb true (xq g)];exact h)
   refine ⟨I,ih (d.setIfInBounds j true) L w' m (ready_mono r (xq f)) h3.1 I ?_⟩
   rw[Array.setIfInBounds_comm _ _ f]
   exact h3.2.2
theorem A1{i:Nat}{d:Oper}{v:Value}{fuel:Nat}{b:Array Bool}{a:Act}{w:World}(hi:ops[i]?=some d)
 (hs:Region.noSelect ops=true)(e:Region.free md ops b i=true)(l:(Region.ready md ops b).contains i=true)
 (f:∀c a w,Q (.panic c) (a.put d.dst v) w->Q (.panic c) a w)(hk:(k !=i)=true)(g:YieldsIf P ops (fun _=>True) d v a)(j:b.getD k true=false->T w)
 (h:Da P md ops Q T k fuel (b.setIfInBounds i true) (a.put d.dst v) w):Da P md ops Q T k (fuel+1) b a w:=
 Mo hi (Region.noSelect_spec hs) f (by simpa using hk) fuel b a w (Region.free_spec hi e) (by simpa using l) g j h
def TG(md:Region.Mode)(ops:Array Oper)(k i:Nat):Bool:=match ops[k]? with
 |none=>false
 |some o=>o.after.any fun e=>Region.binds md e&&e.on==i
theorem Aj{i:Nat}{d:Oper}{v:Value}{fuel:Nat}{b:Array Bool}{a:Act}{w:World}(hi:ops[i]?=some d)
 (hs:Region.noSelect ops=true)(l:Region.free md ops b i=true)(j:(Region.ready md ops b).contains i=true)
 (m:∀c a w,Q (.panic c) (a.put d.dst v) w->Q (.panic c) a w)(hk:(k !=i&&!b.getD k true&&TG md ops k i)=true)(o:YieldsIf P ops T d v a)(g:T w)
 (h:Da P md ops Q T k fuel (b.setIfInBounds i true) (a.put d.dst v) w):Da P md ops Q T k (fuel+1) b a w:=by
 simp only[yv,qo,Bool.not_eq_true'] at hk
 refine NL hi (Region.noSelect_spec hs) m hk.1.1 (fun ok f=>?_) fuel b a w (Region.free_spec hi l) (by simpa using j) o hk.1.2 g h
 have:=hk.2
 unfold TG at this
 rw[f] at this
 simp only[xU,yv,beq_iff_eq] at this
 obtain ⟨e,n,h1,h2⟩:=this
 exact ⟨e,n,h1,h2⟩
theorem A0{i:Nat}{o:Oper}{fuel:Nat}{b:Array Bool}{a:Act}{w:World}(d:Region.ready md ops b=[i])(g:ops[i]?=some o)
 (h:∀K:Act->World->Prop,Hid (∀a w,((b.setIfInBounds i true).getD k true=false->T w)->Da P md ops Q T k fuel (b.setIfInBounds i true) a w->K a w)->if Region.wanted o (yielded ops a.tmps)=true then Oper.wp P o a w K Q else K (a.put o.dst undef) w):Da P md ops Q T k (fuel+1) b a w:=by
 refine ⟨fun h0=>(by rw[d] at h0;cases h0),fun j c=>?_⟩
 rw[d] at c
 obtain rfl:=zh.1 c
 exact wpOp_step g (fun m f=>h m (yb fun a w e l=>f a w ⟨e,l⟩))
theorem AF{fuel:Nat}{b:Array Bool}{a:Act}{w:World}(c:Region.ready md ops b=[])(h:Q .normal a w):Da P md ops Q T k fuel b a w:=by
 cases fuel with
 |zero=>exact ⟨c,h⟩
 |succ n=>exact ⟨fun _=>h,by rw[c];simp⟩
theorem BZ{id:Nat}{a:Act}{w:World}(b:P.follows .mixedOrders=true)(T:World->Prop)(k:Nat)
 (h:Da P .any ops Q T k ops.size (Array.replicate ops.size false) a w.drew):(Code.region id ops true).wp P Q a w:=
 wp_region_any b (LC _ _ _ _ h)
end
end Go.Proofs.Ytghepahgkcigpaa
namespace Go.Proofs.Ytghepahgkcigpaa
open Go.RowKit
section
variable{P:Program}{ops:Array Oper}{rest:List Oper}{o:Oper}{a:Act}{w:World}{Q:QT}
theorem EY(b:o.guard=none)(ty:TypeId)(x:Operand)(d:o.op=.box ty x)(cs:Array Value)(e:a.eval x=.agg cs)
 (h:wpList P ops Q rest (a.put o.dst (.pointer (some ⟨w.heap.size,0,none⟩))) (w.alloc (.cells cs ty))):wpList P ops Q (o::rest) a w:=
 yG b fun K c=>by
  unfold Oper.wp execOp
  simp only[d,e,Instr.box,newVar,newRow,Value.cells,Sem.run_bind,run_newObj_alloc,Sem.run_pure,Result.andThen_ok]
  exact c _ _ h
theorem Cc(f:o.guard=none)(t e:TypeId)(x:Operand)(k:o.op=.buildSlice t 1 #[(0,x)])(cs:LV)(m:a.eval x=.agg cs.toArray)
 (n:Nat)(p:P.underlying t=some (.slice e))(hi:((P.info? e).bind fun i=>i.zero.map fun z=>(i.size,z.cells.size))=some (n,n))(j:cs.length=n)(c:0 < n)(d:n<=1000)
 (h:wpList P ops Q rest (a.put o.dst (.slice (some ⟨w.heap.size,0,none⟩) 1 1)) (w.alloc (.cells cs.toArray e))):wpList P ops Q (o::rest) a w:=by
 cases b:P.info? e with
 |none=>simp[b] at hi
 |some ie=>
  cases g:ie.zero with
  |none=>simp[b,g] at hi
  |some z=>
   simp only[b,g,xJ,xT,yY,zw] at hi
   obtain ⟨h1,h2⟩:=hi
   refine wpList_buildSlice f t e 1 _ k _ ie z p b g (by rw[h1];omega) (by rw[h1];omega) ?_ h
   have hs:((Array.range (1*ie.size)).map (z.cells[· % z.cells.size]!)).size=1*n:=by simp[h1]
   rw[h1] at hs ⊢
   generalize (Array.range (1*n)).map (z.cells[· % z.cells.size]!)=l at hs ⊢
   have:=Great.fill_whole (s:=n) c [.agg cs.toArray] l (by simp[Value.cells,j]) (by rw[hs];rfl)
   simp only[List.zipIdx_cons,List.zipIdx_nil,zZ,xA,zv,zQ,zt,Value.cells] at this
   simpa[m] using this
end
theorem Mt{v:Value}(a:v.cells=#[v])(ty:TypeId)(p:Addr):storeVar ty p v=storeVar ty p (.agg #[v]):=by
 unfold storeVar
 rw[a]
 rfl
theorem I5{P:Program}{ops:Array Oper}{rest:List Oper}{op:Oper}{a:Act}{w:World}{Q:QT}(c:op.guard=none)(ty:TypeId)(x y:Operand)(d:op.op=.store ty x y)
 (b o:Nat)(v:Value)(j:a.eval x=.pointer (some ⟨b,o,none⟩))(i:a.eval y=v)(e:v.cells=#[v])
 (g:w.there b o 1)(hi:(P.info? ty).map (·.size)=some 1)(h1:v.oneCell'=true)
 (h:wpList P ops Q rest (a.put op.dst undef) (w.setCells b o [v])):wpList P ops Q (op::rest) a w:=
 yG c fun K f=>by
  unfold Oper.wp execOp
  simp only[d,j,i,Instr.storeAt,Instr.sureAddr,Sem.run_bind,Sem.run_pure,Result.andThen_ok,Mt e,run_storeVar_mid w b o ty #[v] g hi (by simpa using h1)]
  exact f _ _ h
end Go.Proofs.Ytghepahgkcigpaa
namespace Go.Proofs.Ytghepahgkcigpaa
open Go
structure Ke (ops:Array Oper) (a₀:Act) (Ext:Array Bool->Array Value->World->Prop) (Pp:Nat->Value->World->Prop) (listed:Array Bool) (a:Act) (w:World):Prop where
 size:listed.size=ops.size
 down:∀m,listed.getD m false=true->∀o,ops[m]?=some o->∀e∈o.after,Region.binds .any e=true->listed.getD e.on false=true
 ext:Ext listed a.tmps w
 defers:a.defers=a₀.defers
 tmps:a.tmps.size=a₀.tmps.size
 done:∀i,listed.getD i false=true->∀o t,ops[i]?=some o->o.dst=some t->Pp i (a.tmps.getD t undef) w
 free:∀k,(∀i,listed.getD i false=true->∀o,ops[i]?=some o->o.dst≠some k)->a.tmps.getD k undef=a₀.tmps.getD k undef
theorem AZ{a:Act}{t:Nat}(v:Value)(h:t < a.tmps.size):(a.put (some t) v).tmps.getD t undef=v:=by
 simp[Act.put,h]
theorem CM{a:Act}{t k:Nat}(v:Value)(h:t≠k):(a.put (some t) v).tmps.getD k undef=a.tmps.getD k undef:=by
 simp[Act.put,h]
def GH(ops:Array Oper):Bool:=(ops.toList.filterMap (·.dst)).Nodup&&(List.range ops.size).all fun i=>(ops[i]?).all fun o=>o.after.all fun e=>decide (e.on < i)||!Region.binds .any e
def Ik(n:Nat)(ops:Array Oper):Bool:=ops.all fun o=>o.dst.all fun t=>decide (t < n)
theorem Rr:∀ {l:List Oper},(l.filterMap (·.dst)).Nodup->∀ {i j:Nat} {c d:Oper} {t:Tmp},l[i]?=some c->l[j]?=some d->c.dst=some t->d.dst=some t->i=j
 |[],_,i,_,_,_,_,h,_,_,_=>by simp at h
 |x::r,hn,i,j,c,d,t,hi,b,di,dj=>by
  have f:(r.filterMap (·.dst)).Nodup:=by
   rw[List.filterMap_cons] at hn
   split at hn
   ·exact hn
   ·exact (xD.1 hn).2
  have a:∀ {k:Nat} {o:Oper},r[k]?=some o->o.dst=some t->x.dst≠some t:=by
   intro k o hk hd e
   rw[List.filterMap_cons,e] at hn
   exact (xD.1 hn).1 (List.mem_filterMap.2 ⟨o,xw hk,hd⟩)
  cases i with
  |zero=>
   cases j with
   |zero=>rfl
   |succ j=>
    simp only[xO,yY] at hi
    subst hi
    exact (a (by simpa using b) dj di).elim
  |succ i=>
   cases j with
   |zero=>
    simp only[xO,yY] at b
    subst b
    exact (a (by simpa using hi) di dj).elim
   |succ j=>exact yJ (·+1) (Rr f (by simpa using hi) (by simpa using b) di dj)
variable{P:Program}{ops:Array Oper}{Q:QT}
theorem NS{l:Array Bool}{i:Nat}(h:l.getD i false=true):i < l.size:=by
 rcases zS i l.size with a|a
 ·exact a
 ·simp[xh a] at h
def LZ(ops:Array Oper):Nat->Nat->Nat->Bool
 |0,_,_=>false
 |f+1,j,i=>(ops[j]?).any fun o=>o.after.any fun e=>Region.binds .any e&&(e.on==i||LZ ops f e.on i)
theorem A3{a:Array Bool}(hd:∀m,a.getD m false=true->∀o,ops[m]?=some o->∀e∈o.after,Region.binds .any e=true->a.getD e.on false=true):
  ∀(f j i:Nat),LZ ops f j i=true->a.getD j false=true->a.getD i false=true
 |0,_,_,h,_=>by cases h
 |f+1,j,i,h,hj=>by
  rw[LZ] at h
  cases c:ops[j]? with
  |none=>rw[c] at h;cases h
  |some o=>
   rw[c,Option.any_some,xU] at h
   obtain ⟨e,d,b⟩:=h
   simp only[yv,qh,beq_iff_eq] at b
   have hl:=hd j hj o c e d b.1
   rcases b.2 with h2|h2
   ·rw[<-h2];exact hl
   ·exact A3 hd f e.on i h2 hl
theorem Ke.next{H:Act}{p:Array Bool->Array Value->World->Prop}{D:Nat->Value->World->Prop}{Q:Nat->World->World->Prop}(q:GH ops=true)(s:Ik H.tmps.size ops=true)
 (K:∀i j v w w',j≠i->(∀f,LZ ops f j i=false)->Q i w w'->D j v w->D j v w'){b:Array Bool}{a:Act}{w:World}(h:Ke ops H p D b a w){i:Nat}{o:Oper}(hi:i∈Region.ready .any ops b)(g:ops[i]?=some o)
 {v:Value}{w':World}(U:p (b.setIfInBounds i true) (a.put o.dst v).tmps w')(O:Q i w w')(T:D i v w'):Ke ops H p D (b.setIfInBounds i true) (a.put o.dst v) w':=by
 obtain ⟨r,y,I,C⟩:=xp.1 hi
 obtain rfl:y=o:=yh (I.symm.trans g)
 have F:i < b.size:=by rw[h.size];exact (ye.1 g).1
 have l:∀ {m:Nat},(b.setIfInBounds i true).getD m false=true->m=i∨b.getD m false=true:=by
  intro m d
  by_cases e:i=m
  ·exact .inl e.symm
  ·rw[xb false e] at d;exact .inr d
 unfold GH at q
 rw[yv,yW] at q
 have z:∀ {i j:Nat} {R P:Oper} {t:Tmp},ops[i]?=some R->ops[j]?=some P->R.dst=some t->P.dst=some t->i=j:=fun hi W S V=>
  Rr q.1 (by simpa using hi) (by simpa using W) S V
 have J:∀ {i:Nat} {o:Oper} {t:Tmp},ops[i]?=some o->o.dst=some t->t < H.tmps.size:=by
  intro i o t g hd
  unfold Ik at s
  rw[zu] at s
  have:=s o (xr g)
  rw[hd] at this
  simpa using this
 refine ⟨by simp[h.size],?_,U,?_,?_,?_,?_⟩
 ·intro m d E c e A hb
  rcases l d with rfl|d
  ·obtain rfl:=yh (c.symm.trans g)
   exact getD_set_true (C e A hb)
  ·exact getD_set_true (h.down m d E c e A hb)
 ·rw[<-h.defers];unfold Act.put;cases y.dst<;>rfl
 ·rw[<-h.tmps];unfold Act.put;cases y.dst<;>simp
 ·intro m d E t c hd
  by_cases e:m=i
  ·subst e
   obtain rfl:=yh (c.symm.trans g)
   rw[hd,AZ _ (by rw[h.tmps];exact J g hd)]
   exact T
  ·have G:=(l d).resolve_left e
   have M:∀f,LZ ops f m i=false:=by
    intro f
    rw[yj]
    intro hb
    have B:=A3 h.down f m i hb G
    simp[F] at r B
    rw[B] at r;cases r
   have n:=K _ _ _ _ _ e M O (h.done m G E t c hd)
   cases x:y.dst with
   |none=>exact n
   |some u=>
    rw[CM _ (fun N=>e (z c g hd (by rw[x,N])))]
    exact n
 ·intro k hk
  have L:=h.free k (fun m d E c=>hk m (getD_set_true d) E c)
  rw[<-L]
  cases x:y.dst with
  |none=>rfl
  |some u=>
   refine CM _ (fun N=>?_)
   refine hk i ?_ y g (by rw[x,N])
   simp[F]
theorem M0(c:GH ops=true){a:Array Bool}(hs:a.size=ops.size)(h:Region.ready .any ops a=[]):∀i,i < ops.size->a.getD i false=true:=by
 intro i
 induction i using Nat.strongRecOn with
 |ind i ih=>
  intro hi
  by_cases hl:a.getD i false=true
  ·exact hl
  ·exfalso
   have f:a.getD i true=false:=by
    have:i < a.size:=by omega
    simp[this] at hl ⊢
    exact hl
   have b:i∈Region.ready .any ops a:=by
    refine xp.2 ⟨f,ops[i],by simp[hi],fun e j g=>?_⟩
    have d:e.on < i:=by
     unfold GH at c
     rw[yv,yO] at c
     have h1:=c.2 i (z6.2 hi)
     simp only[Array.getElem?_eq_getElem hi,Option.all_some,zu] at h1
     have h2:=h1 e j
     rw[g] at h2
     simpa using h2
    exact ih e.on d (by omega)
   rw[h] at b
   cases b
theorem St{A:Act}{k:Array Bool->Array Value->World->Prop}{u:Nat->Value->World->Prop}{F:Nat->World->World->Prop}(y:GH ops=true)(D:Ik A.tmps.size ops=true)
 (C:∀i j v w w',j≠i->(∀f,LZ ops f j i=false)->F i w w'->u j v w->u j v w')
 (t:∀i b a w,Ke ops A k u b a w->i∈Region.ready .any ops b->∀o,ops[i]?=some o->wpOp P ops Q i (fun H w'=>∃v,H=a.put o.dst v∧k (b.setIfInBounds i true) (a.put o.dst v).tmps w'∧F i w w'∧u i v w') a w)
 (q:∀b a w,(∀i,i < ops.size->b.getD i false=true)->Ke ops A k u b a w->Q .normal a w):
  ∀(fuel:Nat) (b:Array Bool) (a:Act) (w:World),(∀i,i < ops.size->b.getD i false=true)∨((List.range ops.size).filter fun i=>!b.getD i false).length<=fuel->Ke ops A k u b a w->wpAny P .any ops Q fuel b a w:=by
 intro fuel
 induction fuel with
 |zero=>
  intro b a w s hM
  have n:∀i,i < ops.size->b.getD i false=true:=by
   rcases s with s|s
   ·exact s
   ·intro i hi
    have h0:=ze.1 (Nat.le_zero.1 s)
    have:=List.filter_eq_nil_iff.1 h0 i (z6.2 hi)
    simpa using this
  refine ⟨?_,q _ _ _ n hM⟩
  cases B:Region.ready .any ops b with
  |nil=>rfl
  |cons i r=>
   exfalso
   have hi:i∈Region.ready .any ops b:=by rw[B];simp
   obtain ⟨c,o,x,_⟩:=xp.1 hi
   have d:=(ye.1 x).1
   have:=n i d
   have m:i < b.size:=by rw[hM.size];exact d
   simp[m] at c this
   rw[this] at c;cases c
 |succ fuel ih=>
  intro b a w s hM
  refine ⟨fun B=>q _ _ _ (M0 y hM.size B) hM,fun i hi=>?_⟩
  obtain ⟨c,o,x,_⟩:=xp.1 hi
  have d:=(ye.1 x).1
  have m:i < b.size:=by rw[hM.size];exact d
  have g:b.getD i false=false:=by simp[m] at c ⊢;exact c
  refine wpOp_mono (fun H w' J=>?_) (t i b a w hM hi o x)
  obtain ⟨v,rfl,L,E,I⟩:=J
  refine ih _ _ _ (.inr ?_) (hM.next y D C hi x L E I)
  have K:=s.resolve_left (fun h=>by rw[h i d] at g;cases g)
  have z:((List.range ops.size).filter fun j=>!(b.setIfInBounds i true).getD j false)=((List.range ops.size).filter fun j=>!b.getD j false).filter fun j=>decide (j≠i):=by
   rw[List.filter_filter]
   refine List.filter_congr fun j _=>?_
   by_cases e:i=j
   ·subst e;simp[m]
   ·rw[xb false e];simp[xq e]
  rw[z]
  have G:=(List.length_filter_lt_length_iff_exists (p:=fun j=>decide (j≠i)) (l:=(List.range ops.size).filter fun j=>!b.getD j false)).2 ⟨i,qi.2 ⟨z6.2 d,by rw[g];rfl⟩,by simp⟩
  omega
theorem Mu{id:Nat}{h:Act}{s:World}(t:P.follows .mixedOrders=true)(d:Array Bool->Array Value->World->Prop)(l:Nat->Value->World->Prop)(r:Nat->World->World->Prop)(p:GH ops=true)(q:Ik h.tmps.size ops=true)
 (n:∀i j v w w',j≠i->(∀f,LZ ops f j i=false)->r i w w'->l j v w->l j v w')(h0:d (Array.replicate ops.size false) h.tmps s.drew)
 (g:∀i b a w,Ke ops h d l b a w->i∈Region.ready .any ops b->∀o,ops[i]?=some o->wpOp P ops Q i (fun u w'=>∃v,u=a.put o.dst v∧d (b.setIfInBounds i true) (a.put o.dst v).tmps w'∧r i w w'∧l i v w') a w)
 (k:∀b a w,(∀i,i < ops.size->b.getD i false=true)->Ke ops h d l b a w->Q .normal a w):(Code.region id ops true).wp P Q h s:=by
 refine wp_region_any t ?_
 have e:∀i,(Array.replicate ops.size false).getD i false=false:=fun i=>by
  simp[Array.getElem?_replicate];split<;>rfl
 refine St p q n g k ops.size _ h _ (.inr ?_) ⟨by simp,fun m c=>?_,h0,rfl,rfl,fun m c=>?_,fun _ _=>rfl⟩
 ·exact yl (List.length_filter_le _ _) (by simp)
 ·rw[e] at c;cases c
 ·rw[e] at c;cases c
def Eg(id:Nat):Code->Option (Array Oper)
 |.region i ops _=>if i=id then some ops else none
 |.seq x y=>(Eg id x).or (Eg id y)
 |.cond _ x y=>(Eg id x).or (Eg id y)
 |.block _ x=>Eg id x
 |.loop x=>Eg id x
 |.rangeFunc _ _ x y=>(Eg id x).or (Eg id y)
 |.scope x=>Eg id x
 |_=>none
def Gs(f:Func)(id:Nat):Option (Array Oper):=f.body.bind (Eg id)
def U5(c:Array Value->World->Prop)(e:World->World->Prop)(f:Value->World->Prop)(b:Option Tmp)(a:Act)(w:World)(d:Act)(w':World):Prop:=
 ∃v,d=a.put b v∧c (a.put b v).tmps w'∧e w w'∧f v w'
def NT(ops:Array Oper):Bool:=ops.all fun o=>o.guard.isNone
theorem DP{id:Nat}{k:Act}{r:World}(s:P.follows .mixedOrders=true)(c:Array Bool->Array Value->World->Prop)(g:Nat->Value->World->Prop)(m:Nat->World->World->Prop)(p:GH ops=true)(q:Ik k.tmps.size ops=true)
 (e:NT ops=true)(n:∀i j v w w',j≠i->(∀f,LZ ops f j i=false)->m i w w'->g j v w->g j v w')(h0:c (Array.replicate ops.size false) k.tmps r.drew)
 (d:∀i b a w,Ke ops k c g b a w->i∈Region.ready .any ops b->∀o,ops[i]?=some o->o.wp P a w (U5 (c (b.setIfInBounds i true)) (m i) (g i) o.dst a w) Q)
 (h:∀b a w,(∀i,i < ops.size->b.getD i false=true)->Ke ops k c g b a w->Q .normal a w):(Code.region id ops true).wp P Q k r:=by
 refine Mu s c g m p q n h0 (fun i b a w hM hi o l=>?_) h
 unfold wpOp
 rw[l]
 have u:o.guard=none:=by
  unfold NT at e
  rw[zu] at e
  simpa using e o (xr l)
 have t:Region.wanted o (yielded ops a.tmps)=true:=by simp[Region.wanted,u]
 simp only[t,zX]
 exact .inl (d i b a w hM hi o l)
theorem Ke.dep{p:Act}{f:Array Bool->Array Value->World->Prop}{l:Nat->Value->World->Prop}{b:Array Bool}{a:Act}{w:World}(h:Ke ops p f l b a w){i:Nat}(hi:i∈Region.ready .any ops b)
 (j:Nat)(t:Tmp)(hb:((ops[i]?).any fun o=>o.after.any fun e=>e.on==j&&Region.binds .any e)=true)(hd:(ops[j]?).bind (·.dst)=some t):l j (a.tmps[t]?.getD undef) w:=by
 rw[<-yH]
 obtain ⟨_,o,m,c⟩:=xp.1 hi
 rw[m,Option.any_some,xU] at hb
 obtain ⟨e,n,d⟩:=hb
 simp only[yv,beq_iff_eq] at d
 obtain ⟨rfl,g⟩:=d
 cases k:ops[e.on]? with
 |none=>rw[k] at hd;cases hd
 |some oj=>
  rw[k,xJ] at hd
  exact h.done e.on (c e n g) oj t k hd
theorem Ke.came{l:Act}{f:Array Bool->Array Value->World->Prop}{h:Nat->Value->World->Prop}{b:Array Bool}{a:Act}{w:World}(_:Ke ops l f h b a w){i:Nat}(hi:i∈Region.ready .any ops b)
 (j:Nat)(hb:((ops[i]?).any fun o=>o.after.any fun e=>e.on==j&&Region.binds .any e)=true):b.getD j false=true:=by
 obtain ⟨_,o,g,d⟩:=xp.1 hi
 rw[g,Option.any_some,xU] at hb
 obtain ⟨e,k,c⟩:=hb
 simp only[yv,beq_iff_eq] at c
 rw[<-c.1]
 exact d e k c.2
theorem Ke.not_yet{g:Act}{d:Array Bool->Array Value->World->Prop}{j:Nat->Value->World->Prop}{b:Array Bool}{a:Act}{w:World}(h:Ke ops g d j b a w){i:Nat}(hi:i∈Region.ready .any ops b):b.getD i false=false:=by
 obtain ⟨c,o,f,_⟩:=xp.1 hi
 have e:i < b.size:=by rw[h.size];exact (ye.1 f).1
 simp[e] at c ⊢
 exact c
theorem Ke.old{p:Act}{j:Array Bool->Array Value->World->Prop}{s:Nat->Value->World->Prop}{b:Array Bool}{a:Act}{w:World}(h:Ke ops p j s b a w){i:Nat}(hi:i∈Region.ready .any ops b)
 (k:Tmp)(hb:(ops.all fun o=>o.dst !=some k||o.after.any fun e=>e.on==i&&Region.binds .any e)=true)(v:Value)(r:p.tmps.getD k undef=v):a.tmps[k]?.getD undef=v:=by
 rw[<-yH,<-r]
 refine h.free k fun m q n g hd=>?_
 rw[zu] at hb
 have:=hb n (xr g)
 rw[hd] at this
 simp only[bne_self_eq_false,Bool.false_or,xU] at this
 obtain ⟨e,t,f⟩:=this
 simp only[yv,beq_iff_eq] at f
 have c:=h.down m q n g e t f.2
 rw[f.1] at c
 have d:=(xp.1 hi).1
 have l:=NS c
 simp[l] at d c
 rw[c] at d;cases d
theorem KX{a b:Act}(D:List Nat)(hs:a.tmps.size=b.tmps.size)(hd:a.defers=b.defers)(g:∀k,k∉D->a.tmps.getD k undef=b.tmps.getD k undef):
  a={tmps:=D.foldl (fun t k=>t.setIfInBounds k (a.tmps.getD k undef)) b.tmps,defers:=b.defers}:=by
 have c:∀(D:List Nat) (t:Array Value),t.size=a.tmps.size->(∀k,k∉D->a.tmps.getD k undef=t.getD k undef)->a.tmps=D.foldl (fun t k=>t.setIfInBounds k (a.tmps.getD k undef)) t:=by
  intro D
  induction D with
  |nil=>
   intro t f h
   apply Array.ext f.symm
   intro i h1 h2
   have:=h i (by simp)
   simpa[h1,h2] using this
  |cons x r ih=>
   intro t f h
   rw[List.foldl_cons]
   refine ih _ (by simp[f]) fun k hk=>?_
   by_cases e:x=k
   ·subst e
    by_cases j:x < t.size
    ·simp[j]
    ·simp[xh (show a.tmps.size<=x by omega)]
   ·rw[h k (by simp[hk,xq e])]
    simp[e]
 obtain ⟨t,d⟩:=a
 simp only at hd
 subst hd
 exact yJ (fun t=>({tmps:=t,defers:=b.defers}:Act)) (c D b.tmps hs.symm g)
end Go.Proofs.Ytghepahgkcigpaa
namespace Go.Proofs.Ytghepahgkcigpaa
open Go
theorem QC{P:Program}{o:Oper}{a:Act}{w:World}{K:Act->World->Prop}{Q:QT}{l n:Nat}(hd:∀c,o.op≠.defer c)(h:Oper.wp P o a w K Q):Oper.wpIn (Fence.wide.inRound l) n P o a w K Q:=by
 refine ⟨fun _ _=>trivial,?_⟩
 rw[Fence.inRound_round,xt l a.eval o hd]
 unfold Oper.wp at h
 generalize (execOp a.eval o).run P w=r at h ⊢
 cases r with
 |ok x w'=>
  cases x with
  |value v=>exact h
  |skip=>exact h
  |defer d=>exact h
  |enter f args=>exact ⟨fun h=>(by cases h),za.2 h⟩
  |row r args=>exact ⟨fun h=>(by cases h),fun c cs _=>let ⟨v,w2,q,s⟩:=h c cs;⟨v,w2,q,stepsIn_wide.2 s⟩⟩
  |_=>exact h.elim
 |halt x w'=>cases x<;>exact h
def VW(ops:Array Oper):Bool:=ops.all fun o=>match o.op with
 |.defer _=>false
 |_=>true
section
variable{F:Fence}{n:Nat}{P:Program}{ops:Array Oper}{Q:QT}
theorem Pg{B:Act}{k:Array Bool->Array Value->World->Prop}{x:Nat->Value->World->Prop}{H:Nat->World->World->Prop}(z:GH ops=true)(E:Ik B.tmps.size ops=true)
 (D:∀i j v w w',j≠i->(∀f,LZ ops f j i=false)->H i w w'->x j v w->x j v w')
 (u:∀i b a w,Ke ops B k x b a w->i∈Region.ready .any ops b->∀o,ops[i]?=some o->wpOpIn F n P ops Q i (fun J w'=>∃v,J=a.put o.dst v∧k (b.setIfInBounds i true) (a.put o.dst v).tmps w'∧H i w w'∧x i v w') a w)
 (s:∀b a w,(∀i,i < ops.size->b.getD i false=true)->Ke ops B k x b a w->Q .normal a w):
  ∀(fuel:Nat) (b:Array Bool) (a:Act) (w:World),(∀i,i < ops.size->b.getD i false=true)∨((List.range ops.size).filter fun i=>!b.getD i false).length<=fuel->Ke ops B k x b a w->wpAnyIn F n P .any ops Q fuel b a w:=by
 intro fuel
 induction fuel with
 |zero=>
  intro b a w t hM
  have q:∀i,i < ops.size->b.getD i false=true:=by
   rcases t with t|t
   ·exact t
   ·intro i hi
    have h0:=ze.1 (Nat.le_zero.1 t)
    have:=List.filter_eq_nil_iff.1 h0 i (z6.2 hi)
    simpa using this
  refine ⟨?_,s _ _ _ q hM⟩
  cases C:Region.ready .any ops b with
  |nil=>rfl
  |cons i r=>
   exfalso
   have hi:i∈Region.ready .any ops b:=by rw[C];simp
   obtain ⟨c,o,y,_⟩:=xp.1 hi
   have d:=(ye.1 y).1
   have:=q i d
   have m:i < b.size:=by rw[hM.size];exact d
   simp[m] at c this
   rw[this] at c;cases c
 |succ fuel ih=>
  intro b a w t hM
  refine ⟨fun C=>s _ _ _ (M0 z hM.size C) hM,fun i hi=>?_⟩
  obtain ⟨c,o,y,_⟩:=xp.1 hi
  have d:=(ye.1 y).1
  have m:i < b.size:=by rw[hM.size];exact d
  have g:b.getD i false=false:=by simp[m] at c ⊢;exact c
  refine wpOpIn_mono (fun J w' L=>?_) (u i b a w hM hi o y)
  obtain ⟨v,rfl,N,G,K⟩:=L
  refine ih _ _ _ (.inr ?_) (hM.next z E D hi y N G K)
  have M:=t.resolve_left (fun h=>by rw[h i d] at g;cases g)
  have A:((List.range ops.size).filter fun j=>!(b.setIfInBounds i true).getD j false)=((List.range ops.size).filter fun j=>!b.getD j false).filter fun j=>decide (j≠i):=by
   rw[List.filter_filter]
   refine List.filter_congr fun j _=>?_
   by_cases e:i=j
   ·subst e;simp[m]
   ·rw[xb false e];simp[xq e]
  rw[A]
  have I:=(List.length_filter_lt_length_iff_exists (p:=fun j=>decide (j≠i)) (l:=(List.range ops.size).filter fun j=>!b.getD j false)).2 ⟨i,qi.2 ⟨z6.2 d,by rw[g];rfl⟩,by simp⟩
  omega
theorem KL{id:Nat}{h:Act}{t:World}(u:P.follows .mixedOrders=true)(d:Array Bool->Array Value->World->Prop)(l:Nat->Value->World->Prop)(s:Nat->World->World->Prop)(q:GH ops=true)(r:Ik h.tmps.size ops=true)
 (p:∀i j v w w',j≠i->(∀f,LZ ops f j i=false)->s i w w'->l j v w->l j v w')(h0:d (Array.replicate ops.size false) h.tmps t.drew)
 (g:∀i b a w,Ke ops h d l b a w->i∈Region.ready .any ops b->∀o,ops[i]?=some o->wpOpIn F n P ops Q i (fun x w'=>∃v,x=a.put o.dst v∧d (b.setIfInBounds i true) (a.put o.dst v).tmps w'∧s i w w'∧l i v w') a w)
 (k:∀b a w,(∀i,i < ops.size->b.getD i false=true)->Ke ops h d l b a w->Q .normal a w):(Code.region id ops true).wpIn F n P Q h t:=by
 refine wpIn_region_any u ?_
 have e:∀i,(Array.replicate ops.size false).getD i false=false:=fun i=>by
  simp[Array.getElem?_replicate];split<;>rfl
 refine Pg q r p g k ops.size _ h _ (.inr ?_) ⟨by simp,fun m c=>?_,h0,rfl,rfl,fun m c=>?_,fun _ _=>rfl⟩
 ·exact yl (List.length_filter_le _ _) (by simp)
 ·rw[e] at c;cases c
 ·rw[e] at c;cases c
end
section
variable{n:Nat}{P:Program}{ops:Array Oper}{Q:QT}
theorem H7{id l:Nat}{p:Act}{x:World}(y:P.follows .mixedOrders=true)(d:Array Bool->Array Value->World->Prop)(k:Nat->Value->World->Prop)(r:Nat->World->World->Prop)(t:GH ops=true)(u:Ik p.tmps.size ops=true)
 (h:NT ops=true)(g:VW ops=true)(s:∀i j v w w',j≠i->(∀f,LZ ops f j i=false)->r i w w'->k j v w->k j v w')(h0:d (Array.replicate ops.size false) p.tmps x.drew)
 (e:∀i b a w,Ke ops p d k b a w->i∈Region.ready .any ops b->∀o,ops[i]?=some o->o.wp P a w (U5 (d (b.setIfInBounds i true)) (r i) (k i) o.dst a w) Q)
 (m:∀b a w,(∀i,i < ops.size->b.getD i false=true)->Ke ops p d k b a w->Q .normal a w):(Code.region id ops true).wpIn (Fence.wide.inRound l) n P Q p x:=by
 refine KL y d k r t u s h0 (fun i b a w hM hi o q=>?_) m
 unfold wpOpIn
 rw[q]
 have A:o.guard=none:=by
  unfold NT at h
  rw[zu] at h
  simpa using h o (xr q)
 have z:Region.wanted o (yielded ops a.tmps)=true:=by simp[Region.wanted,A]
 simp only[z,zX]
 refine QC (fun c hc=>?_) (e i b a w hM hi o q)
 unfold VW at g
 rw[zu] at g
 have h2:=g o (xr q)
 rw[hc] at h2
 cases h2
end
end Go.Proofs.Ytghepahgkcigpaa
namespace Go.Proofs.Ytghepahgkcigpaa
open Go.RowKit Go.ChangeShapes Go.WideShapes Go.Deep
theorem RR{α:Type}{P:Nat->α->Prop}:∀n:Nat,(∀i,i < n->∃t,P i t)->∃a:List α,a.length=n∧∀i (h:i < a.length),P i a[i]
 |0,_=>⟨[],rfl,fun i h=>by simp at h⟩
 |n+1,h=>by
  obtain ⟨a,hl,c⟩:=RR n (fun i hi=>h i (by omega))
  obtain ⟨t,d⟩:=h n (by omega)
  refine ⟨a++[t],by simp[hl],fun i hi=>?_⟩
  by_cases b:i < a.length
  ·rw[ql b];exact c i b
  ·have e:i=a.length:=by simp at hi;omega
   subst e
   simp only[qf (yf _),Nat.sub_self,List.getElem_cons_zero]
   rw[hl];exact d
theorem EH{H:Type}{P:Program}{e:TypeId}{d:DataW H}{n:Nat}:∀ {l:List (DataW H)},d∈l->n∈d.weights P e->n∈DataW.weightsAll P e l
 |[],h,_=>by simp at h
 |x::r,h,hn=>by
  simp only[DataW.weightsAll,yi]
  rcases yK.1 h with rfl|h
  ·exact .inl hn
  ·exact .inr (EH h hn)
theorem RS{w:World}{a:Addr}{v:Value}(h:w.cell? a=some v):a.block < w.heap.size:=by
 rcases zS a.block w.heap.size with b|b
 ·exact b
 ·simp[World.cell?,xh b] at h
theorem Aa{α:Type}(l:List α)(o n:Nat):l.drop o=(l.drop o).take n++l.drop (o+n):=by
 rw[<-List.drop_drop];exact (xB _ _).symm
theorem D7:Try.prog.cellsOf 9=1:=by kernel_rfl
theorem Ko:Try.prog.cellsOf 3=1:=by kernel_rfl
theorem QR:Try.prog.cellsOf 4=1:=by kernel_rfl
theorem BQ:Try.prog.cellsOf 23=2:=by kernel_rfl
theorem EI:Try.prog.cellsOf 49=12:=by kernel_rfl
theorem AM:Try.prog.cellsOf 26=6:=by kernel_rfl
theorem Oi:Try.prog.cellsOf 35=26:=by kernel_rfl
theorem My:Try.prog.cellsOf 55=7:=by kernel_rfl
theorem Me:Try.prog.cellsOf 57=7:=by kernel_rfl
theorem KN:Try.prog.cellsOf 51=51:=by kernel_rfl
theorem Mf:Try.prog.cellsOf 59=12:=by kernel_rfl
theorem Mg:Try.prog.cellsOf 66=8:=by kernel_rfl
theorem Mh:Try.prog.cellsOf 64=23:=by kernel_rfl
theorem KO:Try.prog.cellsOf 68=37:=by kernel_rfl
theorem Mi:Try.prog.cellsOf 70=11:=by kernel_rfl
theorem J3:Try.prog.cellsOf 27=1:=by kernel_rfl
theorem Ix:Try.prog.cellsOf 28=1:=by kernel_rfl
theorem I8:Try.prog.cellsOf 29=1:=by kernel_rfl
theorem Iy:Try.prog.cellsOf 30=1:=by kernel_rfl
theorem Iz:Try.prog.cellsOf 62=1:=by kernel_rfl
theorem IA:Try.prog.cellsOf 31=1:=by kernel_rfl
theorem I9:Try.prog.cellsOf 32=1:=by kernel_rfl
theorem IB:Try.prog.cellsOf 33=1:=by kernel_rfl
theorem QS:0 < Try.prog.bytesOf 26:=yy (by kernel_rfl)
theorem SZ:0 < Try.prog.bytesOf 55:=yy (by kernel_rfl)
theorem QU:0 < Try.prog.bytesOf 57:=yy (by kernel_rfl)
theorem PS:0 < Try.prog.bytesOf 51:=yy (by kernel_rfl)
theorem QV:0 < Try.prog.bytesOf 59:=yy (by kernel_rfl)
theorem QW:0 < Try.prog.bytesOf 66:=yy (by kernel_rfl)
theorem T0:0 < Try.prog.bytesOf 64:=yy (by kernel_rfl)
theorem PT:0 < Try.prog.bytesOf 68:=yy (by kernel_rfl)
theorem QX:0 < Try.prog.bytesOf 70:=yy (by kernel_rfl)
section
variable{H:Type}{enc:TypeId × Value->H}{W:World}
def Wt(t:TypeId)(d:DataW H):Prop:=∀k∈d.weights Try.prog t,k<=reachBytes
def KP(W:World)(b:Nat):Prop:=b < W.heap.size
theorem EJ{α:Type}{t e:TypeId}{sz:Nat}{Pr:LV->α->Prop}(z:Try.prog.underlying t=some (.slice e))(w:Try.prog.cellsOf e=sz)(E:0 < Try.prog.bytesOf e)(y:0 < sz){fuel:Nat}{x0:Value}{d:DataW H}{ps:List MemPlace}
 (P:∀n,n < fuel->∀cs d ps,DataW.trod enc Try.prog W 0 (fun _=>true) true n e cs=some (d,ps)->Wt e d->cs.length=sz->∃x,Pr cs x)
 (h:DataW.trod enc Try.prog W 0 (fun _=>true) true fuel t [x0]=some (d,ps))(J:Wt t d):∃(hd:Ai) (l:List α),x0=hd.v∧Av (KP W) W sz Pr hd l∧hd.n<=hd.c:=by
 rcases DataW.trod_slice z h with ⟨m,_⟩|⟨a,len,cap,f,rest,n,O,m,D,hb,hl,R,K,u,_,_⟩
 ·obtain rfl:x0=.slice none 0 0:=(xy m).1
  exact ⟨⟨none,0,0⟩,[],rfl,⟨rfl,by simp,fun i h=>by simp at h⟩,yf _⟩
 ·obtain rfl:x0=.slice (some a) len cap:=(xy m).1
  simp only[zw] at D
  have I:len<=140737488355328:=by
   have h1:=J ((f.length+rest.length)*Try.prog.bytesOf e) (by
    rw[D.1,DataW.weights,z]
    simp)
   have h2:reachBytes < 2 ^ 47:=reachBytes_lt
   have h3:f.length+rest.length<=(f.length+rest.length)*Try.prog.bytesOf e:=Nat.le_mul_of_pos_right _ E
   omega
  have p:∀i,i < len->∃q:LV × α,q.1.length=sz∧(∀j,j < sz->W.cell? ((a.add (i*sz)).add j)=q.1[j]?)∧Pr q.1 q.2:=by
   intro i hi
   have h1:=u i hi
   have h2:f[i]?=some (f[i]'(by omega)):=yk _
   rw[h2,w] at h1
   obtain ⟨cs,hc,B⟩:=Option.bind_eq_some_iff.1 h1
   obtain ⟨_,s,A⟩:=World.cells?_some hc
   obtain ⟨x,F⟩:=P n (by omega) cs _ _ B (fun k hk=>J k (by
    rw[D.1,DataW.weights,z]
    exact xF _ (yi.2 (.inl (EH (zy.2 ⟨_,yz (by omega),rfl⟩) hk))))) s
   exact ⟨(cs,x),s,A,F⟩
  by_cases h0:len=0
  ·subst h0
   exact ⟨⟨some a,0,cap⟩,[],rfl,⟨rfl,by simp,fun i h=>by simp at h⟩,hl⟩
  ·obtain ⟨qs,M,F⟩:=RR len p
   obtain ⟨N,S,c0,_⟩:=p 0 (by omega)
   have o:W.cell? a=some (N.1[0]'(by omega)):=by
    have:=c0 0 y
    rw[yk (by omega)] at this
    simpa[Addr.add] using this
   have g:a.spot=none:=World.cell?_spot o
   have r:a.block < W.heap.size:=RS o
   obtain ⟨b,off,G⟩:=a
   simp only at g r
   subst g
   refine ⟨⟨some (aV b off),len,cap⟩,qs.map (·.2),rfl,⟨by simp[M],by simp[M];omega,fun i hi=>?_⟩,hl⟩
   have C:i < qs.length:=by simpa using hi
   obtain ⟨p1,p2,p3⟩:=F i C
   refine ⟨b,off,(qs[i]).1,rfl,r,p1,fun j v L=>?_,by simpa using p3⟩
   have Q:=(yA.1 L).1
   have:=p2 j (by omega)
   rw[L] at this
   simpa[zD,zR] using this
theorem PU{a:Option Addr}:∀ {l:List Ex} {k:Nat},(∀i (h:i < l.length),∃b o cs,a=some ⟨b,o,none⟩∧KP W b∧W.rangeAt b (o+(k+i)*6) cs∧AS (KP W) W l[i] cs)->DK (KP W) W a k l
 |[],_,_=>by rw[DK];trivial
 |e::r,k,h=>by
  rw[DK]
  refine ⟨h 0 (by simp),PU fun i hi=>?_⟩
  obtain ⟨b,o,cs,h1,h2,h3,h4⟩:=h (i+1) (by simpa using hi)
  exact ⟨b,o,cs,h1,h2,by rw[show k+1+i=k+(i+1) by omega];exact h3,by simpa using h4⟩
theorem EK{fuel:Nat}{cs:LV}{d:DataW H}{ps:List MemPlace}(h:DataW.trod enc Try.prog W 0 (fun _=>true) true fuel 9 cs=some (d,ps)):∃s:ByteArray,cs=[.string s]∧s.size<=maxLen:=by
 obtain ⟨s,h1,_,h2⟩:=DataW.trod_string j3 h
 exact ⟨s,h1,h2⟩
theorem Gf{fuel:Nat}{cs:LV}{d:DataW H}{ps:List MemPlace}(h:DataW.trod enc Try.prog W 0 (fun _=>true) true fuel 3 cs=some (d,ps)):∃z,cs=[.int .i64 z]:=by
 obtain ⟨z,h1,_⟩:=DataW.trod_int qH h
 exact ⟨z,h1⟩
theorem T1{fuel:Nat}{cs:LV}{d:DataW H}{ps:List MemPlace}(h:DataW.trod enc Try.prog W 0 (fun _=>true) true fuel 4 cs=some (d,ps)):∃z,cs=[.bool z]:=by
 obtain ⟨z,h1,_⟩:=DataW.trod_bool qN h
 exact ⟨z,h1⟩
theorem Ef{fuel:Nat}{cs:LV}{d:DataW H}{ps:List MemPlace}(h:DataW.trod enc Try.prog W 0 (fun _=>true) true fuel 23 cs=some (d,ps)):∃r:Rf,cs=An r∧r.name.size<=maxLen:=by
 obtain ⟨f,n,_,g,a,c,b⟩:=zH qB h
 rw[BQ] at a
 match cs,a,f,c with
 |[x0,x1],_,[y0,y1],_=>
  have e:=b 0 _ rfl
  have t1:=b 1 _ rfl
  simp only[xO,List.getElem?_cons_succ] at e t1
  obtain ⟨s,e0,hs⟩:=EK e
  obtain ⟨z,e1⟩:=Gf t1
  obtain rfl:x0=.string s:=(xy (show [x0]=[_] from e0)).1
  obtain rfl:x1=iV z:=(xy (show [x1]=[_] from e1)).1
  exact ⟨⟨s,z⟩,rfl,hs⟩
theorem B8:∀(fuel:Nat) (cs:LV) (d:DataW H) (ps:List MemPlace),DataW.trod enc Try.prog W 0 (fun _=>true) true fuel 26 cs=some (d,ps)->Wt 26 d->∃e:Ex,AS (KP W) W e cs:=by
 intro fuel
 induction fuel using Nat.strongRecOn with
 |ind fuel ih=>
  intro cs d ps h s
  obtain ⟨F,n,C,A,p,q,f⟩:=zH qD h
  rw[AM] at p
  simp only[zw] at A
  match cs,p,F,q with
  |[x0,x1,x2,x3,x4,x5],_,[y0,y1,y2,y3,y4],_=>
   have x:=f 0 _ rfl
   have t1:=f 1 _ rfl
   have t2:=f 2 _ rfl
   have t3:=f 3 _ rfl
   have t4:=f 4 _ rfl
   simp only[xO,List.getElem?_cons_succ] at x t1 t2 t3 t4
   obtain ⟨z,e0⟩:=Gf x
   obtain ⟨w,e1⟩:=Gf t1
   obtain ⟨y,e2⟩:=Gf t2
   obtain ⟨r,u,D⟩:=Ef t3
   obtain rfl:x0=iV z:=(xy (show [x0]=[_] from e0)).1
   obtain rfl:x1=iV w:=(xy (show [x1]=[_] from e1)).1
   obtain rfl:x2=iV y:=(xy (show [x2]=[_] from e2)).1
   have u:[x3,x4]=[Value.string r.name,iV r.n]:=u
   obtain ⟨rfl,G⟩:=xy u
   obtain ⟨rfl,_⟩:=xy G
   obtain ⟨hd,l,E,g,_⟩:=EJ (x0:=x5) (Pr:=fun cs e=>AS (KP W) W e cs) qC AM QS (by decide) (fun m K cs d ps h s _=>ih m (by omega) cs d ps h s) (show DataW.trod enc Try.prog W 0 (fun _=>true) true n 24 [x5]=some (y4.1,y4.2) from t4) (fun k hk=>s k (by
    rw[A.1,DataW.weights,qD]
    exact yE (j:=4) (t:=24) (d:=y4.1) rfl rfl _ hk))
   subst E
   refine ⟨.mk z w y r.name r.n l,?_⟩
   rw[AS]
   refine ⟨hd.a,hd.c,by unfold Ai.v;rw[g.1],g.2.1,D,PU fun i hi=>?_⟩
   obtain ⟨b,o,cs,g1,I,_,B,J⟩:=g.2.2 i hi
   exact ⟨b,o,cs,g1,I,by rw[yB];exact B,J⟩
theorem PV{fuel:Nat}{cs:LV}{d:DataW H}{ps:List MemPlace}(h:DataW.trod enc Try.prog W 0 (fun _=>true) true fuel 49 cs=some (d,ps))(m:Wt 49 d):∃(e f:Ex) (c o:LV),cs=c++o∧AS (KP W) W e c∧AS (KP W) W f o:=by
 obtain ⟨s,n,p,j,a,i,b⟩:=DataW.trod_array qQ h
 simp only[zw] at j
 rw[EI] at a
 match s,i with
 |[y0,y1],_=>
  have l:DataW.trod enc Try.prog W 0 (fun _=>true) true n 26 ((cs.drop (0*Try.prog.cellsOf 26)).take (Try.prog.cellsOf 26))=some (y0.1,y0.2):=b 0 (by decide)
  have t1:DataW.trod enc Try.prog W 0 (fun _=>true) true n 26 ((cs.drop (1*Try.prog.cellsOf 26)).take (Try.prog.cellsOf 26))=some (y1.1,y1.2):=b 1 (by decide)
  rw[AM] at l t1
  obtain ⟨e,r⟩:=B8 n _ _ _ l (fun k hk=>m k (by
   rw[j.1,DataW.weights,qQ]
   exact EH (d:=y0.1) (by simp) hk))
  obtain ⟨f,q⟩:=B8 n _ _ _ t1 (fun k hk=>m k (by
   rw[j.1,DataW.weights,qQ]
   exact EH (d:=y1.1) (by simp) hk))
  refine ⟨e,f,_,_,?_,r,q⟩
  have s0:=Aa cs 0 6
  have s1:=Aa cs 6 6
  have g:cs.drop 12=[]:=by rw[<-a];exact zo
  simp only[Nat.reduceAdd,Nat.zero_mul,qt] at s0 s1 ⊢
  rw[g,zt] at s1
  rw[zT] at s0
  rw[<-s1]
  rw[zT]
  exact s0
theorem UO(fuel:Nat)(cs:LV)(d:DataW H)(ps:List MemPlace)(h:DataW.trod enc Try.prog W 0 (fun _=>true) true fuel 55 cs=some (d,ps))(u:Wt 55 d)(e:cs.length=7):∃x:CF,GB (KP W) W cs x:=by
 obtain ⟨p,n,s,o,_,b,a⟩:=zH qT h
 simp only[zw] at o
 have b:p.length=2:=b
 match p,b with
 |[y0,y1],_=>
  have i:DataW.trod enc Try.prog W 0 (fun _=>true) true n 9 ((cs.drop 0).take (Try.prog.cellsOf 9))=some (y0.1,y0.2):=a 0 _ rfl
  rw[D7] at i
  have t1:DataW.trod enc Try.prog W 0 (fun _=>true) true n 26 ((cs.drop 1).take (Try.prog.cellsOf 26))=some (y1.1,y1.2):=a 1 _ rfl
  rw[AM] at t1
  have f:cs=cs.drop 0:=rfl
  have s0:=Aa cs 0 1
  obtain ⟨w,g⟩:∃q,q=(cs.drop 0).take 1:=⟨_,rfl⟩
  rw[<-g] at i s0
  have s1:=Aa cs 1 6
  obtain ⟨m,l⟩:∃q,q=(cs.drop 1).take 6:=⟨_,rfl⟩
  rw[<-l] at t1 s1
  have c:cs.drop 7=[]:=by rw[<-e];exact zo
  simp only[Nat.reduceAdd] at s0 s1
  rw[zT] at s0
  rw[s1] at s0
  rw[c] at s0
  clear f
  obtain ⟨v0,e0,v⟩:=EK i
  obtain ⟨r,e1⟩:=B8 n m _ _ t1 (fun k hk=>u k (by
   rw[o.1,DataW.weights,qT]
   exact yE (j:=1) (t:=26) (d:=y1.1) rfl rfl _ hk))
  exact ⟨⟨v0,r⟩,v,m,by rw[s0,e0];simp,e1⟩
theorem T2(fuel:Nat)(cs:LV)(d:DataW H)(ps:List MemPlace)(h:DataW.trod enc Try.prog W 0 (fun _=>true) true fuel 57 cs=some (d,ps))(u:Wt 57 d)(e:cs.length=7):∃x:Br,DZ (KP W) W cs x:=by
 obtain ⟨p,n,s,o,_,b,a⟩:=zH qU h
 simp only[zw] at o
 have b:p.length=2:=b
 match p,b with
 |[y0,y1],_=>
  have i:DataW.trod enc Try.prog W 0 (fun _=>true) true n 9 ((cs.drop 0).take (Try.prog.cellsOf 9))=some (y0.1,y0.2):=a 0 _ rfl
  rw[D7] at i
  have t1:DataW.trod enc Try.prog W 0 (fun _=>true) true n 26 ((cs.drop 1).take (Try.prog.cellsOf 26))=some (y1.1,y1.2):=a 1 _ rfl
  rw[AM] at t1
  have f:cs=cs.drop 0:=rfl
  have s0:=Aa cs 0 1
  obtain ⟨w,g⟩:∃q,q=(cs.drop 0).take 1:=⟨_,rfl⟩
  rw[<-g] at i s0
  have s1:=Aa cs 1 6
  obtain ⟨m,l⟩:∃q,q=(cs.drop 1).take 6:=⟨_,rfl⟩
  rw[<-l] at t1 s1
  have c:cs.drop 7=[]:=by rw[<-e];exact zo
  simp only[Nat.reduceAdd] at s0 s1
  rw[zT] at s0
  rw[s1] at s0
  rw[c] at s0
  clear f
  obtain ⟨v0,e0,v⟩:=EK i
  obtain ⟨r,e1⟩:=B8 n m _ _ t1 (fun k hk=>u k (by
   rw[o.1,DataW.weights,qU]
   exact yE (j:=1) (t:=26) (d:=y1.1) rfl rfl _ hk))
  exact ⟨⟨v0,r⟩,v,m,by rw[s0,e0];simp,e1⟩
theorem QY(fuel:Nat)(cs:LV)(d:DataW H)(ps:List MemPlace)(h:DataW.trod enc Try.prog W 0 (fun _=>true) true fuel 51 cs=some (d,ps))(e:Wt 51 d)(g:cs.length=51):∃x:At,CT (KP W) W cs x:=by
 obtain ⟨G,n,R,c,_,b,a⟩:=zH qS h
 simp only[zw] at c
 have b:G.length=8:=b
 match G,b with
 |[y0,y1,y2,y3,y4,y5,y6,y7],_=>
  have m:DataW.trod enc Try.prog W 0 (fun _=>true) true n 9 ((cs.drop 0).take (Try.prog.cellsOf 9))=some (y0.1,y0.2):=a 0 _ rfl
  rw[D7] at m
  have t1:DataW.trod enc Try.prog W 0 (fun _=>true) true n 23 ((cs.drop 1).take (Try.prog.cellsOf 23))=some (y1.1,y1.2):=a 1 _ rfl
  rw[BQ] at t1
  have t2:DataW.trod enc Try.prog W 0 (fun _=>true) true n 26 ((cs.drop 3).take (Try.prog.cellsOf 26))=some (y2.1,y2.2):=a 2 _ rfl
  rw[AM] at t2
  have t3:DataW.trod enc Try.prog W 0 (fun _=>true) true n 26 ((cs.drop 9).take (Try.prog.cellsOf 26))=some (y3.1,y3.2):=a 3 _ rfl
  rw[AM] at t3
  have t4:DataW.trod enc Try.prog W 0 (fun _=>true) true n 26 ((cs.drop 15).take (Try.prog.cellsOf 26))=some (y4.1,y4.2):=a 4 _ rfl
  rw[AM] at t4
  have t5:DataW.trod enc Try.prog W 0 (fun _=>true) true n 26 ((cs.drop 21).take (Try.prog.cellsOf 26))=some (y5.1,y5.2):=a 5 _ rfl
  rw[AM] at t5
  have t6:DataW.trod enc Try.prog W 0 (fun _=>true) true n 49 ((cs.drop 27).take (Try.prog.cellsOf 49))=some (y6.1,y6.2):=a 6 _ rfl
  rw[EI] at t6
  have t7:DataW.trod enc Try.prog W 0 (fun _=>true) true n 49 ((cs.drop 39).take (Try.prog.cellsOf 49))=some (y7.1,y7.2):=a 7 _ rfl
  rw[EI] at t7
  have u:cs=cs.drop 0:=rfl
  have s0:=Aa cs 0 1
  obtain ⟨q0,l⟩:∃q,q=(cs.drop 0).take 1:=⟨_,rfl⟩
  rw[<-l] at m s0
  have s1:=Aa cs 1 2
  obtain ⟨q1,v⟩:∃q,q=(cs.drop 1).take 2:=⟨_,rfl⟩
  rw[<-v] at t1 s1
  have s2:=Aa cs 3 6
  obtain ⟨D,B⟩:∃q,q=(cs.drop 3).take 6:=⟨_,rfl⟩
  rw[<-B] at t2 s2
  have r:=Aa cs 9 6
  obtain ⟨I,o⟩:∃q,q=(cs.drop 9).take 6:=⟨_,rfl⟩
  rw[<-o] at t3 r
  have y:=Aa cs 15 6
  obtain ⟨E,A⟩:∃q,q=(cs.drop 15).take 6:=⟨_,rfl⟩
  rw[<-A] at t4 y
  have C:=Aa cs 21 6
  obtain ⟨F,i⟩:∃q,q=(cs.drop 21).take 6:=⟨_,rfl⟩
  rw[<-i] at t5 C
  have p:=Aa cs 27 12
  obtain ⟨q6,s⟩:∃q,q=(cs.drop 27).take 12:=⟨_,rfl⟩
  rw[<-s] at t6 p
  have z:=Aa cs 39 12
  obtain ⟨q7,w⟩:∃q,q=(cs.drop 39).take 12:=⟨_,rfl⟩
  rw[<-w] at t7 z
  have f:cs.drop 51=[]:=by rw[<-g];exact zo
  simp only[Nat.reduceAdd] at s0 s1 s2 r y C p z
  rw[zT] at s0
  rw[s1] at s0
  rw[s2] at s0
  rw[r] at s0
  rw[y] at s0
  rw[C] at s0
  rw[p] at s0
  rw[z] at s0
  rw[f] at s0
  clear u
  obtain ⟨v0,e0,z0⟩:=EK m
  obtain ⟨X,e1,S⟩:=Ef t1
  obtain ⟨v2,e2⟩:=B8 n D _ _ t2 (fun k hk=>e k (by
   rw[c.1,DataW.weights,qS]
   exact yE (j:=2) (t:=26) (d:=y2.1) rfl rfl _ hk))
  obtain ⟨v3,Z⟩:=B8 n I _ _ t3 (fun k hk=>e k (by
   rw[c.1,DataW.weights,qS]
   exact yE (j:=3) (t:=26) (d:=y3.1) rfl rfl _ hk))
  obtain ⟨v4,O⟩:=B8 n E _ _ t4 (fun k hk=>e k (by
   rw[c.1,DataW.weights,qS]
   exact yE (j:=4) (t:=26) (d:=y4.1) rfl rfl _ hk))
  obtain ⟨v5,K⟩:=B8 n F _ _ t5 (fun k hk=>e k (by
   rw[c.1,DataW.weights,qS]
   exact yE (j:=5) (t:=26) (d:=y5.1) rfl rfl _ hk))
  obtain ⟨v6,Y,L,r6,Q,U,h6⟩:=PV t6 (fun k hk=>e k (by
   rw[c.1,DataW.weights,qS]
   exact yE (j:=6) (t:=49) (d:=y6.1) rfl rfl _ hk))
  obtain ⟨P,u7,V,T,M,N,J⟩:=PV t7 (fun k hk=>e k (by
   rw[c.1,DataW.weights,qS]
   exact yE (j:=7) (t:=49) (d:=y7.1) rfl rfl _ hk))
  exact ⟨⟨v0,X,v2,v3,v4,v5,v6,Y,P,u7⟩,z0,S,D,I,E,F,L,r6,V,T,by rw[s0,e0,e1,Q,M];simp,e2,Z,O,K,U,h6,N,J⟩
theorem T3(fuel:Nat)(cs:LV)(d:DataW H)(ps:List MemPlace)(h:DataW.trod enc Try.prog W 0 (fun _=>true) true fuel 59 cs=some (d,ps))(C:Wt 59 d)(e:cs.length=12):∃x:Bd,E7 (KP W) W cs x:=by
 obtain ⟨w,n,z,v,_,b,a⟩:=zH qV h
 simp only[zw] at v
 have b:w.length=5:=b
 match w,b with
 |[y0,y1,y2,y3,y4],_=>
  have l:DataW.trod enc Try.prog W 0 (fun _=>true) true n 9 ((cs.drop 0).take (Try.prog.cellsOf 9))=some (y0.1,y0.2):=a 0 _ rfl
  rw[D7] at l
  have t1:DataW.trod enc Try.prog W 0 (fun _=>true) true n 23 ((cs.drop 1).take (Try.prog.cellsOf 23))=some (y1.1,y1.2):=a 1 _ rfl
  rw[BQ] at t1
  have t2:DataW.trod enc Try.prog W 0 (fun _=>true) true n 4 ((cs.drop 3).take (Try.prog.cellsOf 4))=some (y2.1,y2.2):=a 2 _ rfl
  rw[QR] at t2
  have t3:DataW.trod enc Try.prog W 0 (fun _=>true) true n 26 ((cs.drop 4).take (Try.prog.cellsOf 26))=some (y3.1,y3.2):=a 3 _ rfl
  rw[AM] at t3
  have t4:DataW.trod enc Try.prog W 0 (fun _=>true) true n 23 ((cs.drop 10).take (Try.prog.cellsOf 23))=some (y4.1,y4.2):=a 4 _ rfl
  rw[BQ] at t4
  have g:cs=cs.drop 0:=rfl
  have s0:=Aa cs 0 1
  obtain ⟨I,i⟩:∃q,q=(cs.drop 0).take 1:=⟨_,rfl⟩
  rw[<-i] at l s0
  have s1:=Aa cs 1 2
  obtain ⟨K,s⟩:∃q,q=(cs.drop 1).take 2:=⟨_,rfl⟩
  rw[<-s] at t1 s1
  have s2:=Aa cs 3 1
  obtain ⟨J,r⟩:∃q,q=(cs.drop 3).take 1:=⟨_,rfl⟩
  rw[<-r] at t2 s2
  have o:=Aa cs 4 6
  obtain ⟨u,m⟩:∃q,q=(cs.drop 4).take 6:=⟨_,rfl⟩
  rw[<-m] at t3 o
  have f:=Aa cs 10 2
  obtain ⟨G,p⟩:∃q,q=(cs.drop 10).take 2:=⟨_,rfl⟩
  rw[<-p] at t4 f
  have c:cs.drop 12=[]:=by rw[<-e];exact zo
  simp only[Nat.reduceAdd] at s0 s1 s2 o f
  rw[zT] at s0
  rw[s1] at s0
  rw[s2] at s0
  rw[o] at s0
  rw[f] at s0
  rw[c] at s0
  clear g
  obtain ⟨v0,e0,D⟩:=EK l
  obtain ⟨y,e1,A⟩:=Ef t1
  obtain ⟨E,e2⟩:=T1 t2
  obtain ⟨v3,B⟩:=B8 n u _ _ t3 (fun k hk=>C k (by
   rw[v.1,DataW.weights,qV]
   exact yE (j:=3) (t:=26) (d:=y3.1) rfl rfl _ hk))
  obtain ⟨v4,F,z4⟩:=Ef t4
  exact ⟨⟨v0,y,E,v3,v4⟩,D,A,z4,u,by rw[s0,e0,e1,e2,F];simp,B⟩
theorem T4(fuel:Nat)(cs:LV)(d:DataW H)(ps:List MemPlace)(h:DataW.trod enc Try.prog W 0 (fun _=>true) true fuel 66 cs=some (d,ps))(u:Wt 66 d)(e:cs.length=8):∃x:Bv,E0 (KP W) W cs x:=by
 obtain ⟨p,n,s,o,_,b,a⟩:=zH qY h
 simp only[zw] at o
 have b:p.length=2:=b
 match p,b with
 |[y0,y1],_=>
  have i:DataW.trod enc Try.prog W 0 (fun _=>true) true n 23 ((cs.drop 0).take (Try.prog.cellsOf 23))=some (y0.1,y0.2):=a 0 _ rfl
  rw[BQ] at i
  have t1:DataW.trod enc Try.prog W 0 (fun _=>true) true n 26 ((cs.drop 2).take (Try.prog.cellsOf 26))=some (y1.1,y1.2):=a 1 _ rfl
  rw[AM] at t1
  have f:cs=cs.drop 0:=rfl
  have s0:=Aa cs 0 2
  obtain ⟨w,g⟩:∃q,q=(cs.drop 0).take 2:=⟨_,rfl⟩
  rw[<-g] at i s0
  have s1:=Aa cs 2 6
  obtain ⟨m,l⟩:∃q,q=(cs.drop 2).take 6:=⟨_,rfl⟩
  rw[<-l] at t1 s1
  have c:cs.drop 8=[]:=by rw[<-e];exact zo
  simp only[Nat.reduceAdd] at s0 s1
  rw[zT] at s0
  rw[s1] at s0
  rw[c] at s0
  clear f
  obtain ⟨v0,e0,v⟩:=Ef i
  obtain ⟨r,e1⟩:=B8 n m _ _ t1 (fun k hk=>u k (by
   rw[o.1,DataW.weights,qY]
   exact yE (j:=1) (t:=26) (d:=y1.1) rfl rfl _ hk))
  exact ⟨⟨v0,r⟩,v,m,by rw[s0,e0];simp,e1⟩
theorem UP(fuel:Nat)(cs:LV)(d:DataW H)(ps:List MemPlace)(h:DataW.trod enc Try.prog W 0 (fun _=>true) true fuel 64 cs=some (d,ps))(f:Wt 64 d)(b:cs.length=23):∃x:B6 × Ai,Hc (KP W) W x.2 cs x.1:=by
 obtain ⟨J,n,M,l,_,e,a⟩:=zH qX h
 simp only[zw] at l
 have e:J.length=7:=e
 match J,e with
 |[y0,y1,y2,y3,y4,y5,y6],_=>
  have w:DataW.trod enc Try.prog W 0 (fun _=>true) true n 9 ((cs.drop 0).take (Try.prog.cellsOf 9))=some (y0.1,y0.2):=a 0 _ rfl
  rw[D7] at w
  have t1:DataW.trod enc Try.prog W 0 (fun _=>true) true n 23 ((cs.drop 1).take (Try.prog.cellsOf 23))=some (y1.1,y1.2):=a 1 _ rfl
  rw[BQ] at t1
  have t2:DataW.trod enc Try.prog W 0 (fun _=>true) true n 3 ((cs.drop 3).take (Try.prog.cellsOf 3))=some (y2.1,y2.2):=a 2 _ rfl
  rw[Ko] at t2
  have t3:DataW.trod enc Try.prog W 0 (fun _=>true) true n 26 ((cs.drop 4).take (Try.prog.cellsOf 26))=some (y3.1,y3.2):=a 3 _ rfl
  rw[AM] at t3
  have t4:DataW.trod enc Try.prog W 0 (fun _=>true) true n 26 ((cs.drop 10).take (Try.prog.cellsOf 26))=some (y4.1,y4.2):=a 4 _ rfl
  rw[AM] at t4
  have t5:DataW.trod enc Try.prog W 0 (fun _=>true) true n 26 ((cs.drop 16).take (Try.prog.cellsOf 26))=some (y5.1,y5.2):=a 5 _ rfl
  rw[AM] at t5
  have t6:DataW.trod enc Try.prog W 0 (fun _=>true) true n 62 ((cs.drop 22).take (Try.prog.cellsOf 62))=some (y6.1,y6.2):=a 6 _ rfl
  rw[Iz] at t6
  have s:cs=cs.drop 0:=rfl
  have s0:=Aa cs 0 1
  obtain ⟨Y,u⟩:∃q,q=(cs.drop 0).take 1:=⟨_,rfl⟩
  rw[<-u] at w s0
  have s1:=Aa cs 1 2
  obtain ⟨q1,C⟩:∃q,q=(cs.drop 1).take 2:=⟨_,rfl⟩
  rw[<-C] at t1 s1
  have s2:=Aa cs 3 1
  obtain ⟨Z,B⟩:∃q,q=(cs.drop 3).take 1:=⟨_,rfl⟩
  rw[<-B] at t2 s2
  have z:=Aa cs 4 6
  obtain ⟨F,y⟩:∃q,q=(cs.drop 4).take 6:=⟨_,rfl⟩
  rw[<-y] at t3 z
  have p:=Aa cs 10 6
  obtain ⟨G,A⟩:∃q,q=(cs.drop 10).take 6:=⟨_,rfl⟩
  rw[<-A] at t4 p
  have D:=Aa cs 16 6
  obtain ⟨I,r⟩:∃q,q=(cs.drop 16).take 6:=⟨_,rfl⟩
  rw[<-r] at t5 D
  have E:=Aa cs 22 1
  obtain ⟨S,i⟩:∃q,q=(cs.drop 22).take 1:=⟨_,rfl⟩
  rw[<-i] at t6 E
  have g:cs.drop 23=[]:=by rw[<-b];exact zo
  simp only[Nat.reduceAdd] at s0 s1 s2 z p D E
  rw[zT] at s0
  rw[s1] at s0
  rw[s2] at s0
  rw[z] at s0
  rw[p] at s0
  rw[D] at s0
  rw[E] at s0
  rw[g] at s0
  clear s
  obtain ⟨v0,e0,T⟩:=EK w
  obtain ⟨L,e1,N⟩:=Ef t1
  obtain ⟨U,e2⟩:=Gf t2
  obtain ⟨v3,P⟩:=B8 n F _ _ t3 (fun k hk=>f k (by
   rw[l.1,DataW.weights,qX]
   exact yE (j:=3) (t:=26) (d:=y3.1) rfl rfl _ hk))
  obtain ⟨v4,X⟩:=B8 n G _ _ t4 (fun k hk=>f k (by
   rw[l.1,DataW.weights,qX]
   exact yE (j:=4) (t:=26) (d:=y4.1) rfl rfl _ hk))
  obtain ⟨v5,R⟩:=B8 n I _ _ t5 (fun k hk=>f k (by
   rw[l.1,DataW.weights,qX]
   exact yE (j:=5) (t:=26) (d:=y5.1) rfl rfl _ hk))
  obtain ⟨O,c⟩:∃v,S=[v]:=zK.1 (by rw[i,yP,xo,b];rfl)
  rw[c] at t6
  obtain ⟨o,V,Q,Sp,K⟩:=EJ (Pr:=fun cs x=>E0 (KP W) W cs x) qW Mg QW (by decide) (fun m _ cs d ps h f hl=>T4 m cs d ps h f hl) t6 (fun k hk=>f k (by
   rw[l.1,DataW.weights,qX]
   exact yE (j:=6) (t:=62) (d:=y6.1) rfl rfl _ hk))
  rw[Q] at c
  exact ⟨(⟨v0,L,U,v3,v4,v5,V⟩,o),T,N,F,G,I,by rw[s0,e0,e1,e2,c];simp,P,X,R,Sp⟩
theorem QZ(fuel:Nat)(cs:LV)(d:DataW H)(ps:List MemPlace)(h:DataW.trod enc Try.prog W 0 (fun _=>true) true fuel 68 cs=some (d,ps))(g:Wt 68 d)(f:cs.length=37):∃x:AG,CU (KP W) W cs x:=by
 obtain ⟨M,n,X,c,_,b,a⟩:=zH qZ h
 simp only[zw] at c
 have b:M.length=10:=b
 match M,b with
 |[y0,y1,y2,y3,y4,y5,y6,y7,y8,y9],_=>
  have m:DataW.trod enc Try.prog W 0 (fun _=>true) true n 3 ((cs.drop 0).take (Try.prog.cellsOf 3))=some (y0.1,y0.2):=a 0 _ rfl
  rw[Ko] at m
  have t1:DataW.trod enc Try.prog W 0 (fun _=>true) true n 9 ((cs.drop 1).take (Try.prog.cellsOf 9))=some (y1.1,y1.2):=a 1 _ rfl
  rw[D7] at t1
  have t2:DataW.trod enc Try.prog W 0 (fun _=>true) true n 23 ((cs.drop 2).take (Try.prog.cellsOf 23))=some (y2.1,y2.2):=a 2 _ rfl
  rw[BQ] at t2
  have t3:DataW.trod enc Try.prog W 0 (fun _=>true) true n 23 ((cs.drop 4).take (Try.prog.cellsOf 23))=some (y3.1,y3.2):=a 3 _ rfl
  rw[BQ] at t3
  have t4:DataW.trod enc Try.prog W 0 (fun _=>true) true n 3 ((cs.drop 6).take (Try.prog.cellsOf 3))=some (y4.1,y4.2):=a 4 _ rfl
  rw[Ko] at t4
  have t5:DataW.trod enc Try.prog W 0 (fun _=>true) true n 26 ((cs.drop 7).take (Try.prog.cellsOf 26))=some (y5.1,y5.2):=a 5 _ rfl
  rw[AM] at t5
  have t6:DataW.trod enc Try.prog W 0 (fun _=>true) true n 26 ((cs.drop 13).take (Try.prog.cellsOf 26))=some (y6.1,y6.2):=a 6 _ rfl
  rw[AM] at t6
  have t7:DataW.trod enc Try.prog W 0 (fun _=>true) true n 26 ((cs.drop 19).take (Try.prog.cellsOf 26))=some (y7.1,y7.2):=a 7 _ rfl
  rw[AM] at t7
  have p:DataW.trod enc Try.prog W 0 (fun _=>true) true n 26 ((cs.drop 25).take (Try.prog.cellsOf 26))=some (y8.1,y8.2):=a 8 _ rfl
  rw[AM] at p
  have t9:DataW.trod enc Try.prog W 0 (fun _=>true) true n 26 ((cs.drop 31).take (Try.prog.cellsOf 26))=some (y9.1,y9.2):=a 9 _ rfl
  rw[AM] at t9
  have w:cs=cs.drop 0:=rfl
  have s0:=Aa cs 0 1
  obtain ⟨q0,l⟩:∃q,q=(cs.drop 0).take 1:=⟨_,rfl⟩
  rw[<-l] at m s0
  have s1:=Aa cs 1 1
  obtain ⟨q1,A⟩:∃q,q=(cs.drop 1).take 1:=⟨_,rfl⟩
  rw[<-A] at t1 s1
  have s2:=Aa cs 2 2
  obtain ⟨q2,G⟩:∃q,q=(cs.drop 2).take 2:=⟨_,rfl⟩
  rw[<-G] at t2 s2
  have u:=Aa cs 4 2
  obtain ⟨q3,o⟩:∃q,q=(cs.drop 4).take 2:=⟨_,rfl⟩
  rw[<-o] at t3 u
  have D:=Aa cs 6 1
  obtain ⟨q4,F⟩:∃q,q=(cs.drop 6).take 1:=⟨_,rfl⟩
  rw[<-F] at t4 D
  have I:=Aa cs 7 6
  obtain ⟨K,i⟩:∃q,q=(cs.drop 7).take 6:=⟨_,rfl⟩
  rw[<-i] at t5 I
  have s:=Aa cs 13 6
  obtain ⟨O,v⟩:∃q,q=(cs.drop 13).take 6:=⟨_,rfl⟩
  rw[<-v] at t6 s
  have E:=Aa cs 19 6
  obtain ⟨N,B⟩:∃q,q=(cs.drop 19).take 6:=⟨_,rfl⟩
  rw[<-B] at t7 E
  have r:=Aa cs 25 6
  obtain ⟨L,z⟩:∃q,q=(cs.drop 25).take 6:=⟨_,rfl⟩
  rw[<-z] at p r
  have y:=Aa cs 31 6
  obtain ⟨J,C⟩:∃q,q=(cs.drop 31).take 6:=⟨_,rfl⟩
  rw[<-C] at t9 y
  have e:cs.drop 37=[]:=by rw[<-f];exact zo
  simp only[Nat.reduceAdd] at s0 s1 s2 u D I s E r y
  rw[zT] at s0
  rw[s1] at s0
  rw[s2] at s0
  rw[u] at s0
  rw[D] at s0
  rw[I] at s0
  rw[s] at s0
  rw[E] at s0
  rw[r] at s0
  rw[y] at s0
  rw[e] at s0
  clear w
  obtain ⟨v0,e0⟩:=Gf m
  obtain ⟨v1,e1,Y⟩:=EK t1
  obtain ⟨v2,e2,z2⟩:=Ef t2
  obtain ⟨v3,e3,z3⟩:=Ef t3
  obtain ⟨v4,T⟩:=Gf t4
  obtain ⟨v5,P⟩:=B8 n K _ _ t5 (fun k hk=>g k (by
   rw[c.1,DataW.weights,qZ]
   exact yE (j:=5) (t:=26) (d:=y5.1) rfl rfl _ hk))
  obtain ⟨v6,V⟩:=B8 n O _ _ t6 (fun k hk=>g k (by
   rw[c.1,DataW.weights,qZ]
   exact yE (j:=6) (t:=26) (d:=y6.1) rfl rfl _ hk))
  obtain ⟨U,S⟩:=B8 n N _ _ t7 (fun k hk=>g k (by
   rw[c.1,DataW.weights,qZ]
   exact yE (j:=7) (t:=26) (d:=y7.1) rfl rfl _ hk))
  obtain ⟨Z,Q⟩:=B8 n L _ _ p (fun k hk=>g k (by
   rw[c.1,DataW.weights,qZ]
   exact yE (j:=8) (t:=26) (d:=y8.1) rfl rfl _ hk))
  obtain ⟨v9,R⟩:=B8 n J _ _ t9 (fun k hk=>g k (by
   rw[c.1,DataW.weights,qZ]
   exact yE (j:=9) (t:=26) (d:=y9.1) rfl rfl _ hk))
  exact ⟨⟨v0,v1,v2,v3,v4,v5,v6,U,Z,v9⟩,Y,z2,z3,K,O,N,L,J,by rw[s0,e0,e1,e2,e3,T];simp,P,V,S,Q,R⟩
theorem T5(fuel:Nat)(cs:LV)(d:DataW H)(ps:List MemPlace)(h:DataW.trod enc Try.prog W 0 (fun _=>true) true fuel 70 cs=some (d,ps))(A:Wt 70 d)(e:cs.length=11):∃x:BR,E8 (KP W) W cs x:=by
 obtain ⟨u,n,w,s,_,b,a⟩:=zH j0 h
 simp only[zw] at s
 have b:u.length=4:=b
 match u,b with
 |[y0,y1,y2,y3],_=>
  have i:DataW.trod enc Try.prog W 0 (fun _=>true) true n 9 ((cs.drop 0).take (Try.prog.cellsOf 9))=some (y0.1,y0.2):=a 0 _ rfl
  rw[D7] at i
  have t1:DataW.trod enc Try.prog W 0 (fun _=>true) true n 23 ((cs.drop 1).take (Try.prog.cellsOf 23))=some (y1.1,y1.2):=a 1 _ rfl
  rw[BQ] at t1
  have t2:DataW.trod enc Try.prog W 0 (fun _=>true) true n 23 ((cs.drop 3).take (Try.prog.cellsOf 23))=some (y2.1,y2.2):=a 2 _ rfl
  rw[BQ] at t2
  have t3:DataW.trod enc Try.prog W 0 (fun _=>true) true n 26 ((cs.drop 5).take (Try.prog.cellsOf 26))=some (y3.1,y3.2):=a 3 _ rfl
  rw[AM] at t3
  have f:cs=cs.drop 0:=rfl
  have s0:=Aa cs 0 1
  obtain ⟨E,g⟩:∃q,q=(cs.drop 0).take 1:=⟨_,rfl⟩
  rw[<-g] at i s0
  have s1:=Aa cs 1 2
  obtain ⟨G,p⟩:∃q,q=(cs.drop 1).take 2:=⟨_,rfl⟩
  rw[<-p] at t1 s1
  have s2:=Aa cs 3 2
  obtain ⟨F,o⟩:∃q,q=(cs.drop 3).take 2:=⟨_,rfl⟩
  rw[<-o] at t2 s2
  have m:=Aa cs 5 6
  obtain ⟨r,l⟩:∃q,q=(cs.drop 5).take 6:=⟨_,rfl⟩
  rw[<-l] at t3 m
  have c:cs.drop 11=[]:=by rw[<-e];exact zo
  simp only[Nat.reduceAdd] at s0 s1 s2 m
  rw[zT] at s0
  rw[s1] at s0
  rw[s2] at s0
  rw[m] at s0
  rw[c] at s0
  clear f
  obtain ⟨v0,e0,C⟩:=EK i
  obtain ⟨v,e1,y⟩:=Ef t1
  obtain ⟨D,e2,B⟩:=Ef t2
  obtain ⟨v3,z⟩:=B8 n r _ _ t3 (fun k hk=>A k (by
   rw[s.1,DataW.weights,j0]
   exact yE (j:=3) (t:=26) (d:=y3.1) rfl rfl _ hk))
  exact ⟨⟨v0,v,D,v3⟩,C,y,B,r,by rw[s0,e0,e1,e2];simp,z⟩
theorem PW{fuel:Nat}{cs:LV}{d:DataW H}{ps:List MemPlace}(h:DataW.trod enc Try.prog W 0 (fun _=>true) true fuel 35 cs=some (d,ps))(g:Wt 35 d)(f:cs.length=26):∃(L:Bw) (x:Am),Bb (KP W) W L cs x∧L.duties.n<=L.duties.c∧L.rights.n<=L.rights.c:=by
 obtain ⟨ys,n,av,l,_,A,a⟩:=zH qM h
 simp only[zw] at l
 have A:ys.length=11:=A
 match ys,A with
 |[y0,y1,y2,y3,y4,y5,y6,y7,y8,y9,y10],_=>
  have t0:DataW.trod enc Try.prog W 0 (fun _=>true) true n 9 ((cs.drop 0).take (Try.prog.cellsOf 9))=some (y0.1,y0.2):=a 0 _ rfl
  rw[D7] at t0
  have t1:DataW.trod enc Try.prog W 0 (fun _=>true) true n 26 ((cs.drop 1).take (Try.prog.cellsOf 26))=some (y1.1,y1.2):=a 1 _ rfl
  rw[AM] at t1
  have t2:DataW.trod enc Try.prog W 0 (fun _=>true) true n 26 ((cs.drop 7).take (Try.prog.cellsOf 26))=some (y2.1,y2.2):=a 2 _ rfl
  rw[AM] at t2
  have t3:DataW.trod enc Try.prog W 0 (fun _=>true) true n 26 ((cs.drop 13).take (Try.prog.cellsOf 26))=some (y3.1,y3.2):=a 3 _ rfl
  rw[AM] at t3
  have t4:DataW.trod enc Try.prog W 0 (fun _=>true) true n 27 ((cs.drop 19).take (Try.prog.cellsOf 27))=some (y4.1,y4.2):=a 4 _ rfl
  rw[J3] at t4
  have t5:DataW.trod enc Try.prog W 0 (fun _=>true) true n 28 ((cs.drop 20).take (Try.prog.cellsOf 28))=some (y5.1,y5.2):=a 5 _ rfl
  rw[Ix] at t5
  have t6:DataW.trod enc Try.prog W 0 (fun _=>true) true n 29 ((cs.drop 21).take (Try.prog.cellsOf 29))=some (y6.1,y6.2):=a 6 _ rfl
  rw[I8] at t6
  have t7:DataW.trod enc Try.prog W 0 (fun _=>true) true n 30 ((cs.drop 22).take (Try.prog.cellsOf 30))=some (y7.1,y7.2):=a 7 _ rfl
  rw[Iy] at t7
  have t8:DataW.trod enc Try.prog W 0 (fun _=>true) true n 31 ((cs.drop 23).take (Try.prog.cellsOf 31))=some (y8.1,y8.2):=a 8 _ rfl
  rw[IA] at t8
  have t9:DataW.trod enc Try.prog W 0 (fun _=>true) true n 32 ((cs.drop 24).take (Try.prog.cellsOf 32))=some (y9.1,y9.2):=a 9 _ rfl
  rw[I9] at t9
  have s:DataW.trod enc Try.prog W 0 (fun _=>true) true n 33 ((cs.drop 25).take (Try.prog.cellsOf 33))=some (y10.1,y10.2):=a 10 _ rfl
  rw[IB] at s
  have s0:=Aa cs 0 1
  obtain ⟨q0,a8⟩:∃q,q=(cs.drop 0).take 1:=⟨_,rfl⟩
  rw[<-a8] at t0 s0
  have s1:=Aa cs 1 6
  obtain ⟨q1,af⟩:∃q,q=(cs.drop 1).take 6:=⟨_,rfl⟩
  rw[<-af] at t1 s1
  have s2:=Aa cs 7 6
  obtain ⟨q2,ag⟩:∃q,q=(cs.drop 7).take 6:=⟨_,rfl⟩
  rw[<-ag] at t2 s2
  have s3:=Aa cs 13 6
  obtain ⟨q3,aa⟩:∃q,q=(cs.drop 13).take 6:=⟨_,rfl⟩
  rw[<-aa] at t3 s3
  have s4:=Aa cs 19 1
  obtain ⟨q4,a1⟩:∃q,q=(cs.drop 19).take 1:=⟨_,rfl⟩
  rw[<-a1] at t4 s4
  have s5:=Aa cs 20 1
  obtain ⟨q5,K⟩:∃q,q=(cs.drop 20).take 1:=⟨_,rfl⟩
  rw[<-K] at t5 s5
  have s6:=Aa cs 21 1
  obtain ⟨q6,Q⟩:∃q,q=(cs.drop 21).take 1:=⟨_,rfl⟩
  rw[<-Q] at t6 s6
  have s7:=Aa cs 22 1
  obtain ⟨q7,V⟩:∃q,q=(cs.drop 22).take 1:=⟨_,rfl⟩
  rw[<-V] at t7 s7
  have s8:=Aa cs 23 1
  obtain ⟨q8,T⟩:∃q,q=(cs.drop 23).take 1:=⟨_,rfl⟩
  rw[<-T] at t8 s8
  have s9:=Aa cs 24 1
  obtain ⟨q9,X⟩:∃q,q=(cs.drop 24).take 1:=⟨_,rfl⟩
  rw[<-X] at t9 s9
  have G:=Aa cs 25 1
  obtain ⟨ae,w⟩:∃q,q=(cs.drop 25).take 1:=⟨_,rfl⟩
  rw[<-w] at s G
  have M:cs.drop 26=[]:=by rw[<-f];exact zo
  simp only[Nat.reduceAdd] at s0 s1 s2 s3 s4 s5 s6 s7 s8 s9 G
  rw[zT] at s0
  rw[s1] at s0
  rw[s2] at s0
  rw[s3] at s0
  rw[s4] at s0
  rw[s5] at s0
  rw[s6] at s0
  rw[s7] at s0
  rw[s8] at s0
  rw[s9] at s0
  rw[G] at s0
  rw[M] at s0
  obtain ⟨v0,e0,z0⟩:=EK t0
  obtain ⟨v1,e1⟩:=B8 n q1 _ _ t1 (fun k hk=>g k (by
   rw[l.1,DataW.weights,qM]
   exact yE (j:=1) (t:=26) (d:=y1.1) rfl rfl _ hk))
  obtain ⟨v2,e2⟩:=B8 n q2 _ _ t2 (fun k hk=>g k (by
   rw[l.1,DataW.weights,qM]
   exact yE (j:=2) (t:=26) (d:=y2.1) rfl rfl _ hk))
  obtain ⟨v3,e3⟩:=B8 n q3 _ _ t3 (fun k hk=>g k (by
   rw[l.1,DataW.weights,qM]
   exact yE (j:=3) (t:=26) (d:=y3.1) rfl rfl _ hk))
  obtain ⟨ap,y⟩:∃v,q4=[v]:=zK.1 (by rw[a1,yP,xo,f];rfl)
  rw[y] at t4
  obtain ⟨N,l4,e4,a7,al⟩:=EJ (Pr:=fun cs x=>GB (KP W) W cs x) qE My SZ (by decide) (fun m _ cs d ps h g hl=>UO m cs d ps h g hl) t4 (fun k hk=>g k (by
   rw[l.1,DataW.weights,qM]
   exact yE (j:=4) (t:=27) (d:=y4.1) rfl rfl _ hk))
  rw[e4] at y
  obtain ⟨au,C⟩:∃v,q5=[v]:=zK.1 (by rw[K,yP,xo,f];rfl)
  rw[C] at t5
  obtain ⟨S,l5,e5,O,ai⟩:=EJ (Pr:=fun cs x=>DZ (KP W) W cs x) qF Me QU (by decide) (fun m _ cs d ps h g hl=>T2 m cs d ps h g hl) t5 (fun k hk=>g k (by
   rw[l.1,DataW.weights,qM]
   exact yE (j:=5) (t:=28) (d:=y5.1) rfl rfl _ hk))
  rw[e5] at C
  obtain ⟨aq,E⟩:∃v,q6=[v]:=zK.1 (by rw[Q,yP,xo,f];rfl)
  rw[E] at t6
  obtain ⟨J,l6,e6,Sp,ak⟩:=EJ (Pr:=fun cs x=>CT (KP W) W cs x) qG KN PS (by decide) (fun m _ cs d ps h g hl=>QY m cs d ps h g hl) t6 (fun k hk=>g k (by
   rw[l.1,DataW.weights,qM]
   exact yE (j:=6) (t:=29) (d:=y6.1) rfl rfl _ hk))
  rw[e6] at E
  obtain ⟨ao,I⟩:∃v,q7=[v]:=zK.1 (by rw[V,yP,xo,f];rfl)
  rw[I] at t7
  obtain ⟨a6,l7,e7,a0,aj⟩:=EJ (Pr:=fun cs x=>E7 (KP W) W cs x) qI Mf QV (by decide) (fun m _ cs d ps h g hl=>T3 m cs d ps h g hl) t7 (fun k hk=>g k (by
   rw[l.1,DataW.weights,qM]
   exact yE (j:=7) (t:=30) (d:=y7.1) rfl rfl _ hk))
  rw[e7] at I
  obtain ⟨an,z⟩:∃v,q8=[v]:=zK.1 (by rw[T,yP,xo,f];rfl)
  rw[z] at t8
  obtain ⟨Z,R,e8,p,am⟩:=EJ (Pr:=fun cs (x:B6 × Ai)=>Hc (KP W) W x.2 cs x.1) qJ Mh T0 (by decide) (fun m _ cs d ps h g hl=>UP m cs d ps h g hl) t8 (fun k hk=>g k (by
   rw[l.1,DataW.weights,qM]
   exact yE (j:=8) (t:=31) (d:=y8.1) rfl rfl _ hk))
  rw[e8] at z
  obtain ⟨ar,D⟩:∃v,q9=[v]:=zK.1 (by rw[X,yP,xo,f];rfl)
  rw[D] at t9
  obtain ⟨P,l9,e9,U,Y⟩:=EJ (Pr:=fun cs x=>CU (KP W) W cs x) qK KO PT (by decide) (fun m _ cs d ps h g hl=>QZ m cs d ps h g hl) t9 (fun k hk=>g k (by
   rw[l.1,DataW.weights,qM]
   exact yE (j:=9) (t:=32) (d:=y9.1) rfl rfl _ hk))
  rw[e9] at D
  obtain ⟨ah,r⟩:∃v,ae=[v]:=zK.1 (by rw[w,yP,xo,f];rfl)
  rw[r] at s
  obtain ⟨u,ac,ad,B,F⟩:=EJ (Pr:=fun cs x=>E8 (KP W) W cs x) qL Mi QX (by decide) (fun m _ cs d ps h g hl=>T5 m cs d ps h g hl) s (fun k hk=>g k (by
   rw[l.1,DataW.weights,qM]
   exact yE (j:=10) (t:=33) (d:=y10.1) rfl rfl _ hk))
  rw[ad] at r
  refine ⟨⟨0,N,S,J,a6,Z,P,u,R.map (·.2)⟩,⟨v0,v1,v2,v3,l4,l5,l6,l7,R.map (·.1),l9,ac⟩,⟨z0,⟨q1,q2,q3,?_,e1,e2,e3⟩,a7,O,Sp,a0,⟨?_,?_,fun i hi=>?_⟩,U,B⟩,F,Y⟩
  ·rw[s0,e0,y,C,E,I,z,D,r];simp
  ·rw[yN];exact p.1
  ·rw[yN];exact p.2.1
  ·have a2:i < R.length:=by simpa using hi
   obtain ⟨b,o,c,g1,g2,g3,g4,g5⟩:=p.2.2 i a2
   refine ⟨b,o,c,g1,g2,g3,g4,?_⟩
   have e:A4 ⟨0,N,S,J,a6,Z,P,u,R.map (·.2)⟩ i=(R[i]).2:=by
    unfold A4;simp[xj,a2]
   rw[e]
   simpa using g5
end
end Go.Proofs.Ytghepahgkcigpaa
namespace Go.Proofs
open Go.Shelf
def Try.laysM144_ren:Go.Shelf.Ren:=⟨fun|144=>70|143=>92|219=>98|217=>100|225=>101|224=>102|267=>103|266=>104|314=>105|n=>n,fun|9=>9|4=>4|3=>3|5=>5|46=>168|146=>170|51=>169|n=>n,fun|1=>0|n=>n⟩
theorem Try.laysM144:Go.Proofs.LaysM.n144 Try.prog Try.laysM144_ren:={
 mixed:=by kernel_rfl
 f143:=Try.func92.trans (congrArg some (by kernel_rfl))
 f144:=Try.func70.trans (congrArg some (by kernel_rfl))
 f217:=Try.func100.trans (congrArg some (by kernel_rfl))
 f219:=Try.func98.trans (congrArg some (by kernel_rfl))
 f224:=Try.func102.trans (congrArg some (by kernel_rfl))
 f225:=Try.func101.trans (congrArg some (by kernel_rfl))
 f266:=Try.func104.trans (congrArg some (by kernel_rfl))
 f267:=Try.func103.trans (congrArg some (by kernel_rfl))
 f314:=Try.func105.trans (congrArg some (by kernel_rfl))
 t3:=Try.underlying3
 a3:=Try.isAgg3
 z3:=Try.sizeOf3
 v3:=Try.zeroValue3
 t4:=Try.underlying4
 a4:=Try.isAgg4
 z4:=Try.sizeOf4
 v4:=Try.zeroValue4
 t5:=Try.underlying5
 a5:=Try.isAgg5
 z5:=Try.sizeOf5
 v5:=Try.zeroValue5
 t9:=Try.underlying9
 a9:=Try.isAgg9
 z9:=Try.sizeOf9
 v9:=Try.zeroValue9
 t46:=Try.underlying168
 a46:=Try.isAgg168
 z46:=Try.sizeOf168
 v46:=Try.zeroValue168
 t51:=Try.underlying169
 a51:=Try.isAgg169
 z51:=Try.sizeOf169
 v51:=Try.zeroValue169
 t146:=Try.underlying170
 a146:=Try.isAgg170
 z146:=Try.sizeOf170
 v146:=Try.zeroValue170
 g1:=by kernel_rfl
 i3:=by kernel_rfl
 i4:=by kernel_rfl
 i5:=by kernel_rfl
 i9:=by kernel_rfl
 i46:=by kernel_rfl
 i51:=by kernel_rfl
 i146:=by kernel_rfl
 m1:=by kernel_rfl
 s1_3:=fun w h=>Go.Proofs.cell_of_shapedOpen_int (zero:=#[.int .i64 0]) (t:=3) h (of_decide_eq_true (by kernel_rfl)) (by kernel_rfl) rfl (by kernel_rfl) (by kernel_rfl) Try.underlying3}
end Go.Proofs
