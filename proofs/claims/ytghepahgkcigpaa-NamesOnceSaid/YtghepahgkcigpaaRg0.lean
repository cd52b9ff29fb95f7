/- Parts of the proof, in short words: Ka Shelf La Na Nb Oa Nc Nd Nf Ng Oe Oc Pe Yo Rq Sq Wa Shm -/
import Derived.Test.YtghepahgkcigpaaProg
import Derived.WalkKit
import Derived.WalkSpells
import Derived.Below
import Derived.Deep.MidRow
import Derived.Lib.Hide
import Derived.Shelf.Small.Strs
import Derived.Shelf.Strings.Search1
import Derived.Shelf.Strings.Search2
import Derived.Shelf.Strings.Search3
import Derived.RangeFuncNested
import Derived.RangeFuncCalls
import Derived.RangeFuncLeaves
import Derived.Laws.EntriesVeiled
import Derived.WalkLawsBesides
import Derived.Deep.QuietTactic
import Derived.BigQuiet
import Derived.Lib.IndexAny
import Derived.OwnWalkIn
import Derived.TacticsInMore
import Derived.LoopNIn
import Derived.LoopIn
import Derived.Maps.Own
import Derived.Maps.Views
import Derived.OrdersHeld
import Derived.Deep.RegionHeld3
import Derived.Great.BuildSlice
import Derived.Orders
import Derived.OrdersIn
import Derived.TacticsIn
import Derived.ControlIn
import Derived.Deep.Slices
import Derived.Deep.Fields
import Derived.ChangeSame
import Derived.OpenShut
import Derived.SizedLaws
import Derived.Shelf.LaysM
set_option maxRecDepth 100000
set_option maxHeartbeats 4000000
set_option linter.unusedSimpArgs false
set_option linter.defProp false
namespace Go.Proofs.Ytghepahgkcigpaa
open Go.RowKit
theorem yb{p:Prop}(h:p):Hid p:=h
theorem _root_.Go.RowKit.Hid.o{p:Prop}(h:Hid p):p:=h
def ye:=@Nat.le_refl
def yf:=@Array.getElem?_eq_some_iff
def yg:=@Below.refl
def yh:=@Option.some.inj
def yi:=@Bool.eq_false_iff
def yj:=@wpList_load_mid
def yk:=@List.getElem?_eq_getElem
def yl:=@List.append_assoc
def ym:=@List.length_append
def yo:=@List.mem_append
def yp:=@Nat.lt_of_lt_of_le
def yq:=@List.take_succ_eq_append_getElem
def yr:=@Nat.le_trans
def yt:=@Bool.and_eq_true
def yu:=@if_neg
def yv:=@of_decide_eq_true
def yw:=@List.take_length
def yx:=@if_pos
def yy:=@List.getElem_mem
def yz:=@Nat.zero_le
def yA:=@Nat.zero_add
def yB:=@List.size_toArray
def yC:=@DataW.weights_mem_each
def yD:=@List.getElem?_eq_some_iff
def yE:=@List.length_cons
def yF:=@wpList_plain
def yG:=@Array.getD_eq_getD_getElem?
def yH:=@congrArg
def yI:=@List.length_nil
def yJ:=@List.mem_cons
def yK:=@yieldsIf_load_mid
def yL:=@List.all_eq_true
def yM:=@List.length_take
def yN:=@List.mem_flatMap
def yO:=@Array.getElem?_modify
def yP:=@List.length_map
def yQ:=@Below.heap_alloc
def yR:=@World.rangeAt_of_block
def yS:=@List.getElem?_append_right
def yT:=@Bool.and_true
def yU:=@all_oneCell_toArray
def yV:=@Option.some.injEq
def yW:=@decide_eq_true_eq
def yX:=@wpList_store_row
def yY:=@heap_setCell_other
def yZ:=@List.mem_range
def z6:=@List.length_eq_zero_iff
def z7:=@List.cons_append
def z8:=@callsIn_wide
def za:=@heap_setCell_same
def zb:=@List.map_append
def zc:=@Bool.and_assoc
def ze:=@List.all_cons
def zf:=@results_none
def zg:=@List.mem_iff_getElem
def zh:=@List.all_append
def zj:=@List.nil_append
def zk:=@List.drop_length
def zl:=@List.not_mem_nil
def zm:=@CallsIn.mono
def zn:=@List.append_nil
def zo:=@Array.all_eq_true_iff_forall_mem
def zp:=@List.flatMap_cons
def zq:=@Prod.mk.injEq
def zt:=@List.mem_singleton
def zu:=@List.all_nil
def zv:=@World.size_alloc
def zw:=@List.mem_map
def zx:=@List.getElem?_append_left
def zy:=@WideShapes.add_plain
def zA:=@List.length_zipIdx
def zB:=@List.flatMap_append
def zC:=@DataW.trod_struct
def zD:=@StepsIn.trans
def zE:=@List.length_eq_one_iff
def zF:=@ByteArray.toList_eq
def zG:=@List.take_zero
def zH:=@List.getElem?_take
def zI:=@World.block_lt_of_cell?
def zJ:=@Array.replicate_succ
def zK:=@Array.replicate_zero
def zL:=@List.flatMap_nil
def zM:=@List.ext_getElem
def zN:=@Nat.add_assoc
def zO:=@Nat.lt_or_ge
def zP:=@List.drop_zero
def zQ:=@List.append_toArray
def zR:=@Oper.upon_enter
def zS:=@List.getElem_map
def zT:=@List.map_cons
def zU:=@getD_set_ne
def zV:=@List.forall_mem_cons
def zW:=@List.push_toArray
def zX:=@Value.slice.injEq
def zY:=@if_true
def zZ:=@List.getElem_mapIdx
def xb:=@Array.getElem?_eq_none
def xd:=@wp_region_lit
def xe:=@List.getD_eq_getElem?_getD
def xf:=@List.flatMap_map
def xg:=@List.map_flatMap
def xh:=@List.length_drop
def xi:=@mem_ready
def xj:=@Ne.symm
def xk:=@Array.mem_of_getElem?
def xm:=@Oper.semAt_some
def xo:=@bodyPost_ret
def xp:=@or_false
def xq:=@List.mem_of_getElem?
def xr:=@List.all_eq_false
def xt:=@List.cons.inj
def xu:=@decide_eq_false_iff_not
def xv:=@List.getElem_zipIdx
def xw:=@List.mem_zipIdx_iff_getElem?
def xx:=@List.map_nil
def xy:=@List.take_append_drop
def xz:=@List.cons.injEq
def xA:=@Nat.lt_irrefl
def xB:=@wpList_nil
def xC:=@fenced_wide
def xD:=@stepR_block
def xE:=@Option.bind_some
def xF:=@Nat.lt_succ_self
def xG:=@Value.pointer.injEq
def xH:=@Nat.add_sub_cancel_left
def xI:=@List.getElem?_cons_zero
def xJ:=@Bool.eq_iff_iff
def xK:=@decide_eq_false
def xL:=@Option.map_some
def xM:=@Array.any_eq_true'
def xN:=@List.take_of_length_le
def xO:=@List.zipWith_cons_cons
def xP:=@List.flatten_cons
def xQ:=@List.getElem?_map
def xR:=@Nat.add_zero
def xS:=@Bool.false_and
def xT:=@bodyPost_end
def xU:=@Lib.cell?_alloc_some
def xV:=@List.getElem_of_mem
def xW:=@List.getElem_append_right
def xX:=@run_loadVar_mid
def xY:=@Bool.or_eq_true
def xZ:=@List.getElem_append_left
def qb:=@true_and
def qd:=@Array.mk.injEq
def qe:=@bne_iff_ne
def qf:=@Bool.and_false
def qg:=@wp_append_own
def qh:=@Addr.mk.injEq
def qi:=@Bool.true_and
def qj:=@Try.underlying122
def qk:=@Try.underlying127
def qo:=@Try.underlying23
def qp:=@Try.underlying24
def qq:=@Try.underlying26
def qt:=@Try.underlying27
def qu:=@Try.underlying28
def qv:=@Try.underlying29
def qw:=@Try.underlying3
def qx:=@Try.underlying30
def qy:=@Try.underlying31
def qz:=@Try.underlying32
def qA:=@Try.underlying33
def qB:=@Try.underlying35
def qC:=@Try.underlying4
def qE:=@Try.underlying49
def qG:=@Try.underlying51
def qH:=@Try.underlying55
def qI:=@Try.underlying57
def qJ:=@Try.underlying59
def qK:=@Try.underlying62
def qL:=@Try.underlying64
def qM:=@Try.underlying66
def qN:=@Try.underlying68
def qO:=@Try.underlying70
def qQ:=@Try.underlying9
def qR:=@Try.underlying90
abbrev iV (n:Int):Value:=.int .i64 n
abbrev aV (b o:Nat):Addr:=⟨b,o,none⟩
abbrev pV (b o:Nat):Value:=.pointer (some ⟨b,o,none⟩)
abbrev LV:=List Value
abbrev LB:=List ByteArray
abbrev NP:=Nat->Prop
abbrev QT:=Exit->Act->World->Prop
abbrev _root_.Go.World.z (w:World):Nat:=w.heap.size
abbrev qS:List Value:=[.slice none 0 0,.slice none 0 0,.slice none 0 0,.slice none 0 0,.slice none 0 0,.slice none 0 0,.slice none 0 0]
abbrev qT:List Value:=[.slice none 0 0,.slice none 0 0,.slice none 0 0,.slice none 0 0,.slice none 0 0,.slice none 0 0]
abbrev qU:List Value:=[.slice none 0 0,.slice none 0 0,.slice none 0 0,.slice none 0 0,.slice none 0 0]
abbrev qV:List Value:=[.slice none 0 0,.slice none 0 0,.slice none 0 0,.slice none 0 0]
abbrev qW:List Value:=[.slice none 0 0,.slice none 0 0,.slice none 0 0]
abbrev qX:Array Value:=#[.int .i64 0,.int .i64 0,.int .i64 0,.string {data:=#[]},.int .i64 0,.slice none 0 0]
abbrev qY:List Value:=[.slice none 0 0,.slice none 0 0]
abbrev qZ:Array Value:=#[.slice none 0 0]
end Go.Proofs.Ytghepahgkcigpaa
namespace Go.Proofs
open Go.Shelf
def Try.lays137_ren:Go.Shelf.Ren:=⟨fun|137=>97|217=>100|266=>104|n=>n,fun|9=>9|5=>5|3=>3|n=>n,fun|n=>n⟩
theorem Try.lays137:Go.Proofs.Lays.n137 Try.prog Try.lays137_ren:={
 mixed:=by kernel_rfl
 f137:=Try.func97.trans (congrArg some (by kernel_rfl))
 f217:=Try.func100.trans (congrArg some (by kernel_rfl))
 f266:=Try.func104.trans (congrArg some (by kernel_rfl))
 t3:=Try.underlying3
 a3:=Try.isAgg3
 z3:=Try.sizeOf3
 v3:=Try.zeroValue3
 t5:=Try.underlying5
 a5:=Try.isAgg5
 z5:=Try.sizeOf5
 v5:=Try.zeroValue5
 t9:=Try.underlying9
 a9:=Try.isAgg9
 z9:=Try.sizeOf9
 v9:=Try.zeroValue9}
open Go.RowKit in
theorem Try.strings_IndexByte(s:ByteArray)(c:Int)(w:World):
  Calls Try.prog 97 #[.string s,.int .u8 c] w fun e w'=>e=.returned (.int .i64 (Lib.indexByte s.data.toList c.toNat.toUInt8))∧w'=w:=Any.strings_IndexByte Try.lays137 s c w
def Try.lays144_ren:Go.Shelf.Ren:=⟨fun|144=>70|143=>92|219=>98|217=>100|225=>101|224=>102|267=>103|266=>104|314=>105|n=>n,fun|9=>9|4=>4|3=>3|5=>5|46=>168|146=>170|51=>169|n=>n,fun|1=>0|n=>n⟩
theorem Try.lays144:Go.Proofs.Lays.n144 Try.prog Try.lays144_ren:={
 mixed:=by kernel_rfl
 f143:=Try.func92.trans (congrArg some (by kernel_rfl))
 f144:=Try.func70.trans (congrArg some (by kernel_rfl))
 f217:=Try.func100.trans (congrArg some (by kernel_rfl))
 f219:=Try.func98.trans (congrArg some (by kernel_rfl))
 f224:=Try.func102.trans (congrArg some (by kernel_rfl))
 f225:=Try.func101.trans (congrArg some (by kernel_rfl))
 f266:=Try.func104.trans (congrArg some (by kernel_rfl))
 f267:=Try.func103.trans (congrArg some (by kernel_rfl))
 f314:=Try.func105.trans (congrArg some (by kernel_rfl))
 t3:=Try.underlying3
 a3:=Try.isAgg3
 z3:=Try.sizeOf3
 v3:=Try.zeroValue3
 t4:=Try.underlying4
 a4:=Try.isAgg4
 z4:=Try.sizeOf4
 v4:=Try.zeroValue4
 t5:=Try.underlying5
 a5:=Try.isAgg5
 z5:=Try.sizeOf5
 v5:=Try.zeroValue5
 t9:=Try.underlying9
 a9:=Try.isAgg9
 z9:=Try.sizeOf9
 v9:=Try.zeroValue9
 t46:=Try.underlying168
 a46:=Try.isAgg168
 z46:=Try.sizeOf168
 v46:=Try.zeroValue168
 t51:=Try.underlying169
 a51:=Try.isAgg169
 z51:=Try.sizeOf169
 v51:=Try.zeroValue169
 t146:=Try.underlying170
 a146:=Try.isAgg170
 z146:=Try.sizeOf170
 v146:=Try.zeroValue170
 g1:=by kernel_rfl}
open Go.RowKit Go.Lib in
theorem Try.strings_Contains(s sub:ByteArray)(m:Int)(w:World)(hs:s.size < 4294967281)(hm:w.cell? ⟨0,0,none⟩=some (.int .i64 m)):
  Calls Try.prog 70 #[.string s,.string sub] w fun e w'=>e=.returned (.bool (Lib.contains s.data.toList sub.data.toList))∧w'=w:=Any.strings_Contains Try.lays144 s sub m w hs hm
end Go.Proofs
namespace Go.Proofs.Ytghepahgkcigpaa
open Go.RowKit
variable{F:Fence}{n:Nat}{P:Program}
def Ob(P:Program)(l:Nat)(R:Ending->World->Prop):Exit->Act->World->Prop
 |.normal,_,w=>∃v w',(Instr.endRound l none).run P w=.ok v w'∧R (.returned v) w'
 |.ret,_,w=>∃v w',(Instr.endRound l (some .ret)).run P w=.ok v w'∧R (.returned v) w'
 |.exit id,_,w=>∃v w',(Instr.endRound l (some (.exit id))).run P w=.ok v w'∧R (.returned v) w'
 |.goto t,_,w=>∃v w',(Instr.endRound l (some (.goto t))).run P w=.ok v w'∧R (.returned v) w'
 |.panic chain,a,w=>a.defers=[]∧R (.panicked chain) w
 |.outgrown,_,_=>False
theorem ID{l:Nat}{f:FuncId}{fn:Func}(D:P.funcs[f]?=some fn){tmps:Array Value}{assign body:Code}{w:World}{R:Ending->World->Prop}(H:F.fn f)
 (h:assign.wpIn (F.inRound l) n P (Exit.then (fun u E=>∃z,(Instr.beginRound l).run P E=.ok () z∧body.wpIn (F.inRound l) n P (Ob P l R) u z) (fun _ _ _=>False))
   {tmps:=tmps,defers:=[]} w):
  RoundIn F n P l f tmps assign body w R:=by
 refine ⟨H,fun c cs I=>?_⟩
 let b:Frame:={(default:Frame) with fn:=f,kind:=.normal,roundOf:=some l}
 have A:Frame.round l f tmps assign body .normal=b.atR {tmps:=tmps,defers:=[]} [.code assign,.beginRound,.code body]:=by
  simp[Frame.round,Frame.atR,b]
 have i:(F.inRound l).room ((c::cs).length+1+n):=I
 have j:(F.inRound l).fn b.fn:=H
 obtain ⟨e,u,E,s,g⟩:=h b [.beginRound,.code body] (c::cs) rfl j i
 rw[<-A] at g
 cases e with
 |normal=>
  obtain ⟨z,C,p⟩:=s
  have x:StepsIn (Machine.fenced P (F.inRound l)) P (lone (b.atR u [.beginRound,.code body]) (c::cs) E) (lone (b.atR u [.code body]) (c::cs) z):=
   .one (fenced_calm (fr:=b.atR u [.beginRound,.code body]) j i rfl) (stepR_beginRound rfl C)
  obtain ⟨J,r,G,k,a⟩:=p b [] (c::cs) rfl j i
  cases J with
  |normal=>
   obtain ⟨v,q,d,m⟩:=k
   exact ⟨.returned v,q,m,(zD g x).trans (zD a (.one (fenced_calm (fr:=b.atR r []) j i rfl) (stepR_round_end rfl rfl d)))⟩
  |ret=>
   obtain ⟨v,q,d,m⟩:=k
   obtain ⟨y,hs⟩:=a.2 rfl
   exact ⟨.returned v,q,m,(zD g x).trans (zD hs (.one (fenced_calm (fr:=b.atR r (.code .ret::y)) j i rfl) (stepR_round_ret rfl rfl d)))⟩
  |exit id=>
   obtain ⟨v,q,d,m⟩:=k
   obtain ⟨y,B,hs⟩:=a.2 rfl rfl
   exact ⟨.returned v,q,m,(zD g x).trans (zD hs (.one (fenced_calm (fr:=b.atR r (.code (.exit id)::y)) j i rfl) (stepR_round_exit rfl rfl B d)))⟩
  |goto t=>
   obtain ⟨v,q,d,m⟩:=k
   obtain ⟨y,B,hs⟩:=a.2 rfl rfl
   exact ⟨.returned v,q,m,(zD g x).trans (zD hs (.one (fenced_calm (fr:=b.atR r (.code (.goto t)::y)) j i rfl) (stepR_round_goto rfl rfl B d)))⟩
  |panic chain=>
   obtain ⟨hd,m⟩:=k
   obtain ⟨o,hs⟩:=a
   have hl:Frame.leaving P {b.atR r o with mode:=.panicking chain} G (.panicked chain):=⟨rfl,hd,fn,D⟩
   exact ⟨.panicked chain,G,m,(zD g x).trans (zD hs (.one (fenced_leaving (fr:={b.atR r o with mode:=.panicking chain}) j i hl) (step_leave_panicked hl)))⟩
  |outgrown=>exact k.elim
 |exit id=>exact s.elim
 |goto t=>exact s.elim
 |ret=>exact s.elim
 |panic chain=>exact s.elim
 |outgrown=>exact s.elim
def Bv(O:NP)(W W':World):Prop:=W.heap.size<=W'.heap.size∧∀b,O b->W'.heap[b]?=W.heap[b]?
theorem Bv.refl(O:NP)(W:World):Bv O W W:=⟨ye _,fun _ _=>rfl⟩
theorem Bv.trans{O:NP}{A B C:World}(h:Bv O A B)(k:Bv O B C):Bv O A C:=⟨yr h.1 k.1,fun b hb=>(k.2 b hb).trans (h.2 b hb)⟩
theorem Bv.sub{O a:NP}{A B:World}(h:Bv O A B)(hs:∀b,a b->O b):Bv a A B:=⟨h.1,fun b hb=>h.2 b (hs b hb)⟩
def Dp{β:Type}(J:β->NP->World->Prop):Prop:=
 ∀s O W a W',J s O W->W.heap.size<=W'.heap.size->W'.os=W.os->W'.tape=W.tape->W'.output=W.output->(∀b,¬ O b->b < W.heap.size->W'.heap[b]?=W.heap[b]?)->(∀b,a b->O b∨W.heap.size<=b)->J s a W'
def Td(F:Fence)(n:Nat)(P:Program)(g:Nat)(lb:Array Value)(Hd:World->Prop)(xs:List (Array Value))(own:Option (List PanicEntry)):Prop:=
 ∀(l:Nat) (J:Nat->NP->World->Prop) (Jx:NP->World->Prop) (Jp:List PanicEntry->NP->World->Prop) (W:World),
  Dp J->Dp (fun (_:Unit)=>Jx)->(∀a,Dp (fun (_:Unit)=>Jp a))->(∀k O W,J k O W->Hd W)->(∀O W,Jx O W->Hd W)->(∀a,own=some a->∀O W,J xs.length O W->Jp a O W)->
  (∀k (c:k < xs.length) O W1,J k O W1->W.heap.size<=W1.heap.size->(∀b,O b->W.heap.size<=b∧b < W1.heap.size)->YieldAt F (n - 1) P l xs[k] W1 fun e W'=>
   (e=.returned (.bool true)∧J (k+1) O W'∧Bv O W1 W')∨(e=.returned (.bool false)∧Jx O W'∧Bv O W1 W')∨(∃a,e=.panicked a∧Jp a O W'∧Bv O W1 W'))->
  J 0 (fun _=>False) W->
  CallsIn F n P g (#[.func (.yield l) #[] #[]]++lb) W fun e W'=>
   ((∃v,e=.returned v)∧((own=none∧∃O,J xs.length O W')∨∃O,Jx O W'))∨∃a,e=.panicked a∧∃O,Jp a O W'
def Gf(f:FuncId)(P:Program)(c:Code)(Q:QT)(a:Act)(w:World):Prop:=
 ∀(b:Frame) (k:List Item) (cs:List Frame),b.roundOf=none->b.fn=f->
  ∃e d w',Q e d w'∧ArrivesIn (Machine.fenced P Fence.wide) P (lone (b.atR a (.code c::k)) cs w) b k cs e d w'
section
variable{f:FuncId}{Q:QT}{a:Act}{w:World}
theorem Si{c:Code}(h:c.wpIn Fence.wide n P Q a w):Gf f P c Q a w:=fun b k cs d _=>h b k cs d trivial (room_wide _)
theorem A6{c:Code}(h:c.wp P Q a w):Gf f P c Q a w:=Si (n:=0) (wpIn_wide.2 h)
theorem Ad{x y:Code}(h:Gf f P x (Exit.then (Gf f P y Q) Q) a w):Gf f P (Code.seq x y) Q a w:=by
 intro b k cs i hb
 have h0:(lone (b.atR a (.code (.seq x y)::k)) cs w).fenced P Fence.wide:=xC _ _
 obtain ⟨e,j,m,g,c⟩:=h b (.code y::k) cs i hb
 cases e with
 |normal=>
  obtain ⟨q,p,o,n,d⟩:=g b k cs i hb
  exact ⟨q,p,o,n,.of_steps (.head h0 stepR_seq c) d⟩
 |exit id=>exact ⟨_,j,m,g,.of_steps (.one h0 stepR_seq) (.pass (x:=.code y) rfl (fun _ _=>.inl (by simp)) c)⟩
 |goto l=>exact ⟨_,j,m,g,.of_steps (.one h0 stepR_seq) (.pass (x:=.code y) rfl (fun _ _=>.inl (by simp)) c)⟩
 |ret=>exact ⟨_,j,m,g,.of_steps (.one h0 stepR_seq) (.pass (x:=.code y) rfl (fun _ _=>.inl (by simp)) c)⟩
 |panic ch=>exact ⟨_,j,m,g,.of_steps (.one h0 stepR_seq) (.pass (x:=.code y) rfl (fun _ _=>.inl (by simp)) c)⟩
 |outgrown=>exact ⟨_,j,m,g,.of_steps (.one h0 stepR_seq) (.pass (x:=.code y) rfl (fun _ _=>.inl (by simp)) c)⟩
theorem E5{id:Nat}{c:Code}(h:Gf f P c (Exit.inBlock id Q) a w):Gf f P (Code.block id c) Q a w:=by
 intro b k cs q hb
 have h0:(lone (b.atR a (.code (.block id c)::k)) cs w).fenced P Fence.wide:=xC _ _
 obtain ⟨e,n,o,i,d⟩:=h b (.inBlock id::k) cs q hb
 cases e with
 |normal=>exact ⟨.normal,n,o,i,.head h0 xD (zD d (.one (xC _ _) stepR_inBlock))⟩
 |exit id'=>
  by_cases g:id'=id
  ·simp only[Exit.inBlock,g,zY] at i
   exact ⟨.normal,n,o,i,.head h0 xD (d.1 k (by simp[exitTo,g]))⟩
  ·simp only[Exit.inBlock,g,if_false] at i
   have this:(id==id')=false:=by simp;exact fun h=>g h.symm
   have p:exitTo id' (.inBlock id::k)=exitTo id' k:=by simp[exitTo,this]
   exact ⟨.exit id',n,o,i,fun k' m=>.head h0 xD (d.1 k' (by rw[p];exact m)),
    fun j m=>let ⟨k₁,h1,h2⟩:=d.2 j (by rw[p];exact m);⟨k₁,h1,.head h0 xD h2⟩⟩
 |goto l=>
  have p:gotoIn l (.inBlock id::k)=gotoIn l k:=by simp[gotoIn]
  exact ⟨_,n,o,i,fun k' m=>.head h0 xD (d.1 k' (by rw[p];exact m)),
   fun j m=>let ⟨k₁,h1,h2⟩:=d.2 j (by rw[p];exact m);⟨k₁,h1,.head h0 xD h2⟩⟩
 |ret=>exact ⟨_,n,o,i,.of_steps (.one h0 xD) d⟩
 |panic ch=>exact ⟨_,n,o,i,.of_steps (.one h0 xD) d⟩
 |outgrown=>exact ⟨_,n,o,i,.of_steps (.one h0 xD) d⟩
end
def TH(O:NP)(J:Nat->NP->World->Prop)(Jx:Code->NP->World->Prop)(Jp:List PanicEntry->NP->World->Prop)(k:Nat)(W:World):Exit->Act->World->Prop
 |.normal,_,W'=>Bv O W W'∧J (k+1) O W'
 |.ret,_,W'=>Bv O W W'∧Jx .ret O W'
 |.exit id,_,W'=>Bv O W W'∧Jx (.exit id) O W'
 |.goto t,_,W'=>Bv O W W'∧Jx (.goto t) O W'
 |.panic ch,a,W'=>a.defers=[]∧Bv O W W'∧Jp ch O W'
 |.outgrown,_,_=>False
theorem Dp.put{β:Type}{J:β->NP->World->Prop}(h:Dp J){s:β}{O:NP}{W:World}{l:Nat}(hl:O l)(o:Obj)(hs:J s O W):J s O (W.putObj l o):=
 h s O W O _ hs (by simp) rfl rfl rfl (fun b hb _=>World.putObj_heap_other (fun e=>hb (e▸hl))) (fun b hb=>.inl hb)
theorem JL{f:FuncId}{g:Operand}{ps:Array Tmp}{assign body:Code}{Q:QT}{a:Act}{w:World}
 (h:∃(l:Nat) (m:List Deferred) (E:World) (d:Deferred) (r:World) (D:FuncId) (args:Array Value) (A:World),
   (Instr.enterLoop f a.tmps ps assign body none).run P w=.ok (l,m) E∧
   (resolve a.eval (rangeCall g l) 0).run P E=.ok d r∧
   (invoke d.target d.args).run P r=.ok (.enter D args) A∧
   CallsIn Fence.wide (n - 1) P D args A (rangePost Fence.wide n P l Q {a with defers:=m++a.defers})):
  Gf f P (Code.rangeFunc g ps assign body) Q a w:=by
 intro b k cs t hb
 obtain ⟨l,m,E,d,r,D,args,A,I,z,u,O,s⟩:=h
 rw[<-t,<-hb] at I
 have i:=stepR_rangeFunc (P:=P) (b:=b) (a:=a) (k:=k) (cs:=cs) (w:=w) I z u
 obtain ⟨e,K,fr,F,j,L,o⟩:=s (b.atR {a with defers:=m++a.defers} (.inRangeFunc l::k)::cs) (room_wide _)
 cases e with
 |outgrown=>
  obtain ⟨M,N,C⟩:=F
  exact ⟨.outgrown,M,N,C,.inr (Outgrown.of_steps (.one i) j)⟩
 |returned v=>
  obtain ⟨q,G,x,H⟩:=F
  have p:StepsIn (Machine.fenced P Fence.wide) P (lone (b.atR a (.code (.rangeFunc g ps assign body)::k)) cs w) (lone (b.atR {a with defers:=m++a.defers} ((q.map Item.code).toList++k)) cs G):=by
   refine .head (xC _ _) i (zD j (.head (xC _ _) ?_ (.one (xC _ _) (stepR_endRangeFunc x))))
   rw[<-finish_atR_inRangeFunc l v];exact step_leave_returned o
  cases q with
  |none=>exact ⟨.normal,_,G,H,p⟩
  |some c=>
   obtain ⟨e',B,J,C,y⟩:=H b k cs t trivial (room_wide _)
   exact ⟨e',B,J,C,.of_steps p y⟩
 |panicked chain=>
  refine ⟨.panic chain,_,K,F,.inRangeFunc l::k,.head (xC _ _) i (zD j (.one (xC _ _) ?_))⟩
  rw[<-Frame.raise_atR];exact step_leave_panicked o
theorem DD{f:FuncId}{fn:Func}(hf:P.funcs[f]?=some fn){g:Operand}{ps:Array Tmp}{assign body:Code}{Q:QT}{a:Act}{w:World}
 {gf:Nat}{lb:Array Value}(hg:a.eval g=.func (.func gf) #[] lb)(eg:∀args w,(callFunc gf args).run P w=.ok (.enter gf args) w)
 {Hd:World->Prop}{xs:List (Array Value)}{own:Option (List PanicEntry)}(a6:Td Fence.wide (n - 1) P gf lb Hd xs own)(ad:∀x∈xs,x.size=ps.size)
 (J:Nat->NP->World->Prop)(Jx:Code->NP->World->Prop)(Jp:List PanicEntry->NP->World->Prop)(A:Nat->Act->NP->World->Prop)
 (hJ:Dp J)(G:∀c,Dp (fun (_:Unit)=>Jx c))(ah:∀u,Dp (fun (_:Unit)=>Jp u))(hA:∀a,Dp (fun k=>A k a))(ac:∀k O W,J k O W->Hd W)(a1:∀c O W,Jx c O W->Hd W)(aa:∀u,own=some u->∀O W,J xs.length O W->Jp u O W)
 (h0:J 0 (fun _=>False) w)
 (F:∀k (hk:k < xs.length) O W l,J k O W->O l->(∃r,W.heap[l]?=some (.loop r))->(∀b,O b->b < W.heap.size)->assign.wpIn (Fence.wide.inRound l) (n - 1 - 1) P (Exit.then (fun U W₁=>Bv O W W₁∧A k U O W₁) (fun _ _ _=>False))
   {tmps:=(ps.zip xs[k]).foldl (fun t (p,v)=>t.setIfInBounds p v) a.tmps,defers:=[]} W)
 (T:∀k (_:k < xs.length) O W l U,O l->(∃r,W.heap[l]?=some (.loop r))->(∀b,O b->b < W.heap.size)->A k U O W->body.wpIn (Fence.wide.inRound l) (n - 1 - 1) P (TH O J Jx Jp k W) U W)
 (S:own=none->∀D O W,w.heap.size<=D->O D->J xs.length O W->W.heap[D]?=some (.deferred (some []))->Q .normal {a with defers:={target:=.collected D,args:=#[]}::a.defers} W)
 (X:∀D c O W,w.heap.size<=D->O D->Jx c O W->W.heap[D]?=some (.deferred (some []))->c.wpIn Fence.wide n P Q {a with defers:={target:=.collected D,args:=#[]}::a.defers} W)
 (K:∀D u O W,w.heap.size<=D->O D->Jp u O W->W.heap[D]?=some (.deferred (some []))->Q (.panic u) {a with defers:={target:=.collected D,args:=#[]}::a.defers} W):
  Gf f P (Code.rangeFunc g ps assign body) Q a w:=by
 refine JL (n:=n) ?_
 obtain ⟨j,o⟩:∃j:LoopState->Option Code->Loop,j=fun st pe=>{state:=st,pending:=pe,fn:=f,tmps:=a.tmps,params:=ps,assign,body,defers:=w.heap.size}:=⟨_,rfl⟩
 obtain ⟨y,E⟩:∃y,(w.alloc (.deferred (some []))).alloc (.loop (j .ready none))=y:=⟨_,rfl⟩
 have ak:y.heap.size=w.heap.size+2:=by rw[<-E];simp
 have af:y.heap[w.heap.size+1]?=some (.loop (j .ready none)):=by
  rw[<-E];have:=World.alloc_heap_new (w.alloc (.deferred (some []))) (.loop (j .ready none));rwa [zv] at this
 have ae:y.heap[w.heap.size]?=some (.deferred (some [])):=by
  rw[<-E];exact (yQ _ _ _ (by simp)).trans (World.alloc_heap_new w _)
 have ab:J 0 (fun b=>False∨b=w.heap.size∨b=w.heap.size+1) y:=by
  rw[<-E]
  refine hJ 0 _ w _ _ h0 (by simp;omega) rfl rfl rfl (fun b _ hb=>?_) (fun b hb=>.inr ?_)
  ·rw[yQ _ _ _ (by simp;omega),yQ _ _ _ hb]
  ·rcases hb with hb|rfl|rfl
   ·exact hb.elim
   ·exact ye _
   ·omega
 refine ⟨w.heap.size+1,[{target:=.collected w.heap.size,args:=#[]}],y,{target:=.fn (.func gf) lb,args:=#[.func (.yield (w.heap.size+1)) #[] #[]]},y,gf,
  #[.func (.yield (w.heap.size+1)) #[] #[]]++lb,y,?_,?_,?_,?_⟩
 ·rw[<-E,o];exact run_enterLoop_outer _ _ _ _ _
 ·simp only[resolve,hg]
  simp[go_sem]
 ·simp[invoke,go_sem,eg]
 generalize hD:w.heap.size=D at*
 generalize hl:D+1=l at*
 have aj:D < l:=by omega
 refine (a6 l
  (fun k O W=>J k (fun b=>O b∨b=D∨b=l) W∧W.heap[l]?=some (.loop (j .ready none))∧W.heap[D]?=some (.deferred (some []))∧(∀b,O b->y.heap.size<=b)∧y.heap.size<=W.heap.size)
  (fun O W=>∃c,Jx c (fun b=>O b∨b=D∨b=l) W∧W.heap[l]?=some (.loop (j .done (some c)))∧W.heap[D]?=some (.deferred (some []))∧(∀b,O b->y.heap.size<=b)∧y.heap.size<=W.heap.size)
  (fun u O W=>Jp u (fun b=>O b∨b=D∨b=l) W∧W.heap[D]?=some (.deferred (some []))∧(∀b,O b->y.heap.size<=b)∧y.heap.size<=W.heap.size) y ?_ ?_ ?_ ?_ ?_ ?_ ?_ ⟨ab,af,ae,fun b hb=>hb.elim,ye _⟩).mono ?_
 ·rintro k O W O' W' ⟨h1,h2,h3,h4,h5⟩ Z Y ht hu i R
  refine ⟨hJ k _ W _ W' h1 Z Y ht hu (fun b hb B=>i b (fun h=>hb (.inl h)) B) (fun b hb=>?_),?_,?_,fun b hb=>?_,by omega⟩
  ·rcases hb with hb|hb
   ·rcases R b hb with h|h
    ·exact .inl (.inl h)
    ·exact .inr h
   ·exact .inl (.inr hb)
  ·exact (i l (fun h=>by have:=h4 l h;omega) (yf.1 h2).1).trans h2
  ·exact (i D (fun h=>by have:=h4 D h;omega) (yf.1 h3).1).trans h3
  ·rcases R b hb with h|h
   ·exact h4 b h
   ·omega
 ·rintro _ O W O' W' ⟨c,h1,h2,h3,h4,h5⟩ Z Y ht hu i R
  refine ⟨c,G c () _ W _ W' h1 Z Y ht hu (fun b hb B=>i b (fun h=>hb (.inl h)) B) (fun b hb=>?_),?_,?_,fun b hb=>?_,by omega⟩
  ·rcases hb with hb|hb
   ·rcases R b hb with h|h
    ·exact .inl (.inl h)
    ·exact .inr h
   ·exact .inl (.inr hb)
  ·exact (i l (fun h=>by have:=h4 l h;omega) (yf.1 h2).1).trans h2
  ·exact (i D (fun h=>by have:=h4 D h;omega) (yf.1 h3).1).trans h3
  ·rcases R b hb with h|h
   ·exact h4 b h
   ·omega
 ·rintro u _ O W O' W' ⟨h1,h3,h4,h5⟩ Z Y ht hu i R
  refine ⟨ah u () _ W _ W' h1 Z Y ht hu (fun b hb B=>i b (fun h=>hb (.inl h)) B) (fun b hb=>?_),?_,fun b hb=>?_,by omega⟩
  ·rcases hb with hb|hb
   ·rcases R b hb with h|h
    ·exact .inl (.inl h)
    ·exact .inr h
   ·exact .inl (.inr hb)
  ·exact (i D (fun h=>by have:=h4 D h;omega) (yf.1 h3).1).trans h3
  ·rcases R b hb with h|h
   ·exact h4 b h
   ·omega
 ·exact fun k O W h=>ac k _ W h.1
 ·exact fun O W h=>h.elim fun c h=>a1 c _ W h.1
 ·exact fun u he O W h=>⟨aa u he _ W h.1,h.2.2.1,h.2.2.2.1,h.2.2.2.2⟩
 ·
  rintro k hk O W ⟨h1,h2,h3,h4,h5⟩ Z ai
  have hy:=run_yield (P:=P) (args:=xs[k]) h2 (by rw[o];exact ad _ (yy hk))
  rw[o] at hy
  have a0:∀b,(O b∨b=D∨b=l)->b < W.heap.size:=fun b hb=>by
   rcases hb with hb|hb|hb
   ·exact (ai b hb).2
   ·rw[hb];exact (yf.1 h3).1
   ·rw[hb];exact (yf.1 h2).1
  refine ⟨f,_,assign,body,hy,ID hf trivial (wpIn_mono (F k hk _ W l h1 (.inr (.inr rfl)) ⟨_,h2⟩ a0) ?_)⟩
  clear hy
  rintro e U Wa C
  cases e with
  |normal=>
   obtain ⟨hs,ag⟩:=C
   have I:=(hs.2 l (.inr (.inr rfl))).trans h2
   have N:=(hs.2 D (.inr (.inl rfl))).trans h3
   have B:=(yf.1 I).1
   refine ⟨_,run_beginRound I (by rw[o]),?_⟩
   have a7:(Wa.putObj l (.loop {j .ready none with state:=.busy})).heap[l]?=some (.loop {j .ready none with state:=.busy}):=World.putObj_heap_same B
   have a8:(Wa.putObj l (.loop {j .ready none with state:=.busy})).heap[D]?=some (.deferred (some [])):=(World.putObj_heap_other (by omega)).trans N
   refine wpIn_mono (T k hk _ _ l U (.inr (.inr rfl)) ⟨_,a7⟩ (fun b hb=>by have:=a0 b hb;have:=hs.1;simp;omega) ((hA U).put (.inr (.inr rfl)) _ ag)) ?_
   have M:∀(d:Option Code) (z:World),Bv (fun b=>O b∨b=D∨b=l) (Wa.putObj l (.loop {j .ready none with state:=.busy})) z->
     (Instr.endRound l d).run P z=.ok (.bool d.isNone) (z.putObj l (.loop (j (if d.isNone then .ready else .done) d)))∧
     (z.putObj l (.loop (j (if d.isNone then .ready else .done) d))).heap[l]?=some (.loop (j (if d.isNone then .ready else .done) d))∧
     (z.putObj l (.loop (j (if d.isNone then .ready else .done) d))).heap[D]?=some (.deferred (some []))∧
     y.heap.size<=(z.putObj l (.loop (j (if d.isNone then .ready else .done) d))).heap.size∧
     Bv O W (z.putObj l (.loop (j (if d.isNone then .ready else .done) d))):=fun d z m=>by
    have a2:=(m.2 l (.inr (.inr rfl))).trans a7
    have H:=run_endRound (P:=P) d a2
    rw[o] at H ⊢
    have z1:=hs.1
    have z3:Wa.heap.size<=z.heap.size:=by have:=m.1;simpa using this
    refine ⟨H,World.putObj_heap_same (yf.1 a2).1,(World.putObj_heap_other (by omega)).trans ((m.2 D (.inr (.inl rfl))).trans a8),by simp;omega,by simp;omega,fun b hb=>?_⟩
    have L:b≠l:=fun e=>by have:=h4 b hb;subst e;omega
    rw[World.putObj_heap_other L,m.2 b (.inl hb),World.putObj_heap_other L,hs.2 b (.inl hb)]
   rintro e a3 z C
   cases e with
   |normal=>
    obtain ⟨m,q⟩:=C
    obtain ⟨H,g1,I,N,V⟩:=M none z m
    exact ⟨_,_,H,.inl ⟨rfl,⟨hJ.put (.inr (.inr rfl)) _ q,g1,I,h4,N⟩,V⟩⟩
   |ret=>
    obtain ⟨m,q⟩:=C
    obtain ⟨H,g1,I,N,V⟩:=M (some .ret) z m
    exact ⟨_,_,H,.inr (.inl ⟨rfl,⟨.ret,(G .ret).put (s:=()) (.inr (.inr rfl)) _ q,g1,I,h4,N⟩,V⟩)⟩
   |exit id=>
    obtain ⟨m,q⟩:=C
    obtain ⟨H,g1,I,N,V⟩:=M (some (.exit id)) z m
    exact ⟨_,_,H,.inr (.inl ⟨rfl,⟨.exit id,(G (.exit id)).put (s:=()) (.inr (.inr rfl)) _ q,g1,I,h4,N⟩,V⟩)⟩
   |goto t=>
    obtain ⟨m,q⟩:=C
    obtain ⟨H,g1,I,N,V⟩:=M (some (.goto t)) z m
    exact ⟨_,_,H,.inr (.inl ⟨rfl,⟨.goto t,(G (.goto t)).put (s:=()) (.inr (.inr rfl)) _ q,g1,I,h4,N⟩,V⟩)⟩
   |panic u=>
    obtain ⟨hd,m,q⟩:=C
    have z1:=hs.1
    have z3:Wa.heap.size<=z.heap.size:=by have:=m.1;simpa using this
    refine ⟨hd,.inr (.inr ⟨u,rfl,⟨q,(m.2 D (.inr (.inl rfl))).trans a8,h4,by omega⟩,by omega,fun b hb=>?_⟩)⟩
    have L:b≠l:=fun e=>by have:=h4 b hb;subst e;omega
    rw[m.2 b (.inl hb),World.putObj_heap_other L,hs.2 b (.inl hb)]
   |outgrown=>exact C.elim
  |exit id=>exact C.elim
  |goto t=>exact C.elim
  |ret=>exact C.elim
  |panic u=>exact C.elim
  |outgrown=>exact C.elim
 ·
  rintro e W2 (⟨⟨v,rfl⟩,(⟨Y,O,h1,h2,h3,h4,h5⟩|⟨O,c,h1,h2,h3,h4,h5⟩)⟩|⟨u,rfl,O,h1,h2,h4,h5⟩)
  ·exact ⟨none,_,by have:=run_endLoop (P:=P) h2 (by rw[o];simp);rw[o] at this;exact this,S Y D _ _ (ye _) (.inr (.inl rfl)) (hJ.put (.inr (.inr rfl)) _ h1) ((World.putObj_heap_other (by omega)).trans h3)⟩
  ·exact ⟨some c,_,by have:=run_endLoop (P:=P) h2 (by rw[o];simp);rw[o] at this;exact this,X D c _ _ (ye _) (.inr (.inl rfl)) ((G c).put (s:=()) (.inr (.inr rfl)) _ h1) ((World.putObj_heap_other (by omega)).trans h3)⟩
  ·exact K D u _ W2 (ye _) (.inr (.inl rfl)) h1 h2
theorem Cd{f:FuncId}{fn:Func}{c:Code}{args:Array Value}{w:World}{R:Ending->World->Prop}(r:P.funcs[f]?=some fn)(hb:fn.body=some c)
 (h:Gf f P c (bodyPostM Fence.wide n P fn R) {tmps:=args++Array.replicate (fn.ntmps - args.size) undef,defers:=[]} w):Calls P f args w R:=by
 refine (z8 (n:=n)).1 ⟨trivial,fun cs s=>?_⟩
 let b:Frame:={(default:Frame) with fn:=f,kind:=.normal,roundOf:=none}
 have k:Frame.enter P f args .normal=
   b.atR {tmps:=args++Array.replicate (fn.ntmps - args.size) undef,defers:=[]} [.code c]:=by
  simp[Frame.enter,Frame.atR,r,hb,b]
 obtain ⟨e,p,w',o,a⟩:=h b [] cs rfl rfl
 rw[<-k] at a
 cases e with
 |normal=>
  obtain ⟨e',j,d,q,hs,g,hl⟩:=leaves_stepsInM p.defers .returning w' {b.atR p [] with mode:=.returning} cs rfl rfl rfl r rfl trivial s o
  exact ⟨e',j,d,q,ComesIn.of_steps (zD a (.one (xC _ _) (stepR_end rfl))) hs,g,hl⟩
 |ret=>
  obtain ⟨i,m⟩:=a.1 rfl
  obtain ⟨e',j,d,q,hs,g,hl⟩:=leaves_stepsInM p.defers .returning w' {b.atR p i with mode:=.returning} cs rfl rfl rfl r rfl trivial s o
  exact ⟨e',j,d,q,ComesIn.of_steps m hs,g,hl⟩
 |panic chain=>
  obtain ⟨i,m⟩:=a
  obtain ⟨e',j,d,q,hs,g,hl⟩:=leaves_stepsInM p.defers (.panicking chain) w' {b.atR p i with mode:=.panicking chain} cs rfl rfl rfl r rfl trivial s o
  exact ⟨e',j,d,q,ComesIn.of_steps m hs,g,hl⟩
 |exit id=>exact o.elim
 |goto l=>exact o.elim
 |outgrown=>exact ⟨.outgrown,w',b,o,a.resolve_left (by simp[b]),rfl,trivial⟩
end Go.Proofs.Ytghepahgkcigpaa
namespace Go.Proofs.Ytghepahgkcigpaa
open Go.RowKit
inductive Ex where
 |mk (op n u:Int) (rn:ByteArray) (ri:Int) (args:List Ex)
namespace Ex
def op:Ex->Int|.mk o _ _ _ _ _=>o
def n:Ex->Int|.mk _ n _ _ _ _=>n
def u:Ex->Int|.mk _ _ u _ _ _=>u
def rn:Ex->ByteArray|.mk _ _ _ r _ _=>r
def ri:Ex->Int|.mk _ _ _ _ i _=>i
def args:Ex->List Ex|.mk _ _ _ _ _ l=>l
end Ex
mutual
def AP(N:NP)(w:World):Ex->LV->Prop
 |.mk op n u rn ri args,cs=>∃a cap,cs=[.int .i64 op,.int .i64 n,.int .i64 u,.string rn,.int .i64 ri,.slice a args.length cap]∧args.length<=140737488355328∧rn.size<=maxLen∧Db N w a 0 args
def Db(N:NP)(w:World)(a:Option Addr):Nat->List Ex->Prop
 |_,[]=>True
 |i,e::r=>(∃b o cs,a=some ⟨b,o,none⟩∧N b∧w.rangeAt b (o+i*6) cs∧AP N w e cs)∧Db N w a (i+1) r
end
def QK(N:NP)(w:World)(v:Value)(l:List Ex):Prop:=∃a cap,v=.slice a l.length cap∧l.length<=140737488355328∧Db N w a 0 l
theorem DJ{N:NP}{w:World}{a:Option Addr}:∀ {l:List Ex} {k:Nat},Db N w a k l->∀i (h:i < l.length),∃b o cs,a=some ⟨b,o,none⟩∧N b∧w.rangeAt b (o+(k+i)*6) cs∧AP N w l[i] cs
 |[],_,_,i,h=>by simp at h
 |e::r,k,hr,i,h=>by
  rw[Db] at hr
  cases i with
  |zero=>exact hr.1
  |succ i=>
   obtain ⟨b,o,cs,h1,h2,h3,h4⟩:=DJ hr.2 i (by simpa using h)
   exact ⟨b,o,cs,h1,h2,by rw[show k+(i+1)=k+1+i by omega];exact h3,by simpa using h4⟩
theorem Pa{N:NP}{w:World}{a:Option Addr}:∀ {l:List Ex} {k:Nat},(∀i (h:i < l.length),∃b o cs,a=some ⟨b,o,none⟩∧N b∧w.rangeAt b (o+(k+i)*6) cs∧AP N w l[i] cs)->Db N w a k l
 |[],_,_=>by rw[Db];trivial
 |e::r,k,h=>by
  rw[Db]
  refine ⟨h 0 (by simp),Pa fun i hi=>?_⟩
  obtain ⟨b,o,cs,h1,h2,h3,h4⟩:=h (i+1) (by simpa using hi)
  exact ⟨b,o,cs,h1,h2,by rw[show k+1+i=k+(i+1) by omega];exact h3,by simpa using h4⟩
theorem A2{w w':World}{b o:Nat}{cs:LV}(h:w.rangeAt b o cs)(hb:w'.heap[b]?=w.heap[b]?):w'.rangeAt b o cs:=fun j v a=>by
 have:=h j v a
 unfold World.cell? at this ⊢
 rw[hb];exact this
mutual
theorem AP.same{N N':NP}{w w':World}(c:∀b,N b->N' b)(hb:∀b,N b->w'.heap[b]?=w.heap[b]?):∀ {e:Ex} {cs:LV},AP N w e cs->AP N' w' e cs
 |.mk _ _ _ _ _ args,_,h=>by
  rw[AP] at h ⊢
  obtain ⟨a,cap,h1,h2,h3,h4⟩:=h
  exact ⟨a,cap,h1,h2,h3,Db.same c hb h4⟩
theorem Db.same{N N':NP}{w w':World}{a:Option Addr}(c:∀b,N b->N' b)(hb:∀b,N b->w'.heap[b]?=w.heap[b]?):∀ {l:List Ex} {k:Nat},Db N w a k l->Db N' w' a k l
 |[],_,h=>by rw[Db];trivial
 |e::r,k,h=>by
  rw[Db] at h ⊢
  obtain ⟨⟨b,o,cs,h1,h2,h3,h4⟩,h5⟩:=h
  exact ⟨⟨b,o,cs,h1,c b h2,A2 h3 (hb b h2),AP.same c hb h4⟩,Db.same c hb h5⟩
end
theorem QK.same{N N':NP}{w w':World}{v:Value}{l:List Ex}(c:∀b,N b->N' b)(hb:∀b,N b->w'.heap[b]?=w.heap[b]?)(h:QK N w v l):QK N' w' v l:=by
 obtain ⟨a,cap,h1,h2,h3⟩:=h
 exact ⟨a,cap,h1,h2,Db.same c hb h3⟩
mutual
def AR:Ex->Nat
 |.mk _ _ _ _ _ args=>Bm args
def Bm:List Ex->Nat
 |[]=>0
 |e::r=>max (1+AR e) (Bm r)
end
mutual
theorem GK{P:Ex->Prop}(h:∀op n u rn ri args,(∀e∈args,P e)->P (.mk op n u rn ri args)):∀e,P e
 |.mk op n u rn ri args=>h op n u rn ri args (Pb h args)
theorem Pb{P:Ex->Prop}(h:∀op n u rn ri args,(∀e∈args,P e)->P (.mk op n u rn ri args)):∀l:List Ex,∀e∈l,P e
 |[]=>fun _ a=>by simp at a
 |x::r=>fun e a=>(yJ.1 a).elim (fun q=>q▸GK h x) (Pb h r e)
end
theorem J3:∀(l:List Ex) (e:Ex),Bm (l++[e])=max (Bm l) (1+AR e)
 |[],e=>by simp[Bm]
 |x::r,e=>by
  rw[z7,Bm,Bm,J3 r e,Nat.max_assoc]
theorem J4{l:List Ex}{i:Nat}(h:i < l.length):Bm (l.take (i+1))=max (Bm (l.take i)) (1+AR l[i]):=by
 rw[yq h,J3]
theorem IE:∀(l:List Ex) (i:Nat),Bm (l.take i)<=Bm l
 |[],i=>by simp
 |x::r,0=>by simp[Bm]
 |x::r,i+1=>by
  rw[List.take_succ_cons,Bm,Bm]
  have:=IE r i
  omega
theorem Oc{l:List Ex}{i:Nat}(h:i < l.length):1+AR l[i]<=Bm l:=by
 have h1:=J4 h
 have h2:=IE l (i+1)
 omega
theorem AP.cells{N:NP}{w:World}{e:Ex}{cs:LV}(h:AP N w e cs):∃a cap,cs=[.int .i64 e.op,.int .i64 e.n,.int .i64 e.u,.string e.rn,.int .i64 e.ri,.slice a e.args.length cap]∧e.args.length<=140737488355328∧e.rn.size<=maxLen∧Db N w a 0 e.args:=by
 cases e
 rw[AP] at h
 exact h
theorem AP.mk'{N:NP}{w:World}{e:Ex}{a:Option Addr}{cap:Nat}(h1:e.args.length<=140737488355328)(h2:e.rn.size<=maxLen)(h3:Db N w a 0 e.args):
  AP N w e [.int .i64 e.op,.int .i64 e.n,.int .i64 e.u,.string e.rn,.int .i64 e.ri,.slice a e.args.length cap]:=by
 cases e
 rw[AP]
 exact ⟨a,cap,rfl,h1,h2,h3⟩
theorem Br{w:World}{b o:Nat}{x0 d e a c f:Value}(h:w.rangeAt b o [x0,d,e,a,c,f]):w.cell? ⟨b,o,none⟩=some x0∧w.cell? ⟨b,o+1,none⟩=some d∧w.cell? ⟨b,o+2,none⟩=some e∧w.cell? ⟨b,o+3,none⟩=some a∧w.cell? ⟨b,o+4,none⟩=some c∧w.cell? ⟨b,o+5,none⟩=some f:=
 ⟨h 0 _ rfl,h 1 _ rfl,h 2 _ rfl,h 3 _ rfl,h 4 _ rfl,h 5 _ rfl⟩
theorem Dc{N:NP}{B:Nat}{w w':World}(hN:∀b,N b->b < B)(hb:Below B w w'):∀b,N b->w'.heap[b]?=w.heap[b]?:=fun b h=>hb.block b (hN b h)
theorem Ju{k:IntKind}{a b:Int}(h:a=b):Ending.returned (.int k a)=.returned (.int k b):=by rw[h]
theorem Bn{a b:Bool}(h:a=b):Ending.returned (.bool a)=.returned (.bool b):=by rw[h]
theorem CA(e:Int)(w:World):Calls Try.prog 50 #[.bool true,.int .i64 e] w fun x w'=>x=.returned (.tuple #[])∧w'=w:=by
 go_enter Try.func50,Try.ntmps50
 go_wp2
 go_end0
 exact ⟨rfl,rfl⟩
theorem Cs(e:Int)(w:World):Calls Try.prog 50 #[.bool false,.int .i64 e] w fun x w'=>x=.panicked [{v:=.iface 38 (.int .i64 e),recovered:=false}]∧w'=w:=by
 go_enter Try.func50,Try.ntmps50
 go_wp2
 exact ⟨rfl,rfl,rfl⟩
theorem PQ:∀(e:Ex) {N:NP} {w:World} {cs:LV},AP N w e cs->(∀b,N b->b < w.heap.size)->AR e<=1000000->
  Calls Try.prog 68 #[.agg cs.toArray] w fun x w'=>x=.returned (.int .i64 (AR e))∧Below w.heap.size w w':=by
 refine GK fun op P u rn ri args ih=>?_
 intro N w cs h hN hd
 rw[AP] at h
 obtain ⟨a,cap,rfl,hl,V,j⟩:=h
 have v:=yb j
 have y:=yb hN
 have U:=yb ih
 have L:AR (.mk op P u rn ri args)=Bm args:=rfl
 rw[L] at hd ⊢
 have z:=yb hd
 generalize J:args.length=m at hl ⊢
 have K:=yb J
 clear j hN ih L hd J
 go_enter Try.func68,Try.ntmps68
 go_wp2
 go_loopw [2,8] (fun T D wr=>∃i:Nat,T=iV (Bm (args.take i))∧D=iV i∧i<=m∧Hid (Below w.heap.size w wr)) (fun _ D _=>m - (intOf D).toNat)
 case atStart=>exact ⟨0,by simp[Bm],rfl,yz _,yb ((yg _ _).alloc (ye _) _)⟩
 case round=>
  obtain ⟨i,rfl,rfl,hi,s⟩:=hrel
  by_cases B:i < m
  ·have d:i < args.length:=by rw[K.o];exact B
   obtain ⟨b,o,cs,rfl,C,l,g⟩:=DJ v.o i d
   have r:=AP.same (fun b h=>h) (Dc y.o s.o) g
   have c:=A2 l (s.o.block b (y.o b C))
   obtain ⟨S,q,rfl,_⟩:=g.cells
   rw[yA] at c
   obtain ⟨c0,c1,c2,Y,Z,X⟩:=Br c
   have p:=Oc d
   have f:=J4 d
   have F:=IE args (i+1)
   have H:=yb (fun (W:World) (I:Below w.heap.size w W)=>U.o args[i] (yy d) (AP.same (fun b h=>h) (Dc y.o I) g) (fun b h=>yp (y.o b h) I.size) (by have:=z.o;omega))
   generalize args[i]=x at*
   have k:=yb (s.o.alloc s.o.size (.cells #[iV x.op,iV x.n,iV x.u,.string x.rn,iV x.ri,.slice S x.args.length q] 26))
   have O:(i:Int) < (m:Int):=by omega
   generalize hdx:AR x=M at p f H ⊢
   have Q:=yb hdx
   generalize G:Bm (args.take i)=R at f ⊢
   have E:=yb f
   have h1:(M:Int)<=1000000:=by have:=z.o;omega
   have h2:(R:Int)<=1000000:=by have:=z.o;omega
   clear g r l c hdx G p f F
   go_wp2_with fail
   refine (H.o _ k.o).mono ?_
   rintro e w2 ⟨rfl,t⟩
   have A:=yb (k.o.trans (t.mono k.o.size))
   clear t
   go_wp2
   refine ⟨⟨i+1,?_,by go_num,by omega,A⟩,by simp[intOf];omega⟩
   rw[E.o]
   congr 1
   first|(split<;>omega)|omega
  ·obtain rfl:i=m:=by omega
   go_wp2
   go_ret
   refine ⟨Ju (by rw[<-K.o,yw]),s.o⟩
def CU(c:UInt8):Bool:=(97<=c.toNat&&c.toNat<=122)||(65<=c.toNat&&c.toNat<=90)
def IF(c:UInt8):Bool:=48<=c.toNat&&c.toNat<=57
def JM(c:UInt8):Bool:=c.toNat==32||c.toNat==9||c.toNat==10||c.toNat==13
def Fl(c:UInt8):Bool:=CU c||IF c||c.toNat==95
def QL:List UInt8:=[123,125,40,41,59,44,61,58,46,60,62,33,43,45,42,47]
def Pc(c:UInt8):Bool:=QL.contains c
def Cw(c:UInt8):Int:=if CU c then 2 else if IF c then 3 else if c.toNat==95 then 5 else if JM c then 1 else if Pc c then 4 else 0
theorem M6{c:UInt8}(h:(97<=c.toNat∧c.toNat<=122)∨(65<=c.toNat∧c.toNat<=90)):Cw c=2:=by
 have:CU c=true:=by simp[CU];omega
 simp[Cw,this]
theorem nl{c:UInt8}(h:¬ ((97<=c.toNat∧c.toNat<=122)∨(65<=c.toNat∧c.toNat<=90))):CU c=false:=by
 rw[yi];simp[CU];omega
theorem MN{c:UInt8}(h:48<=c.toNat∧c.toNat<=57):Cw c=3:=by
 have:IF c=true:=by simp[IF];omega
 simp[Cw,this,nl (c:=c) (by omega)]
theorem nd{c:UInt8}(h:¬ (48<=c.toNat∧c.toNat<=57)):IF c=false:=by
 rw[yi];simp[IF];omega
theorem Od{c:UInt8}(h:c.toNat=95):Cw c=5:=by
 simp[Cw,nd (c:=c) (by omega),nl (c:=c) (by omega),h]
theorem MO{c:UInt8}(h:c.toNat=32∨c.toNat=9∨c.toNat=10∨c.toNat=13):Cw c=1:=by
 have:JM c=true:=by simp[JM];omega
 have h2:(c.toNat==95)=false:=by rw[yi];simp;omega
 simp[Cw,nd (c:=c) (by omega),nl (c:=c) (by omega),h2,this]
theorem Oe{c:UInt8}(h:¬ ((97<=c.toNat∧c.toNat<=122)∨(65<=c.toNat∧c.toNat<=90)))(h1:¬ (48<=c.toNat∧c.toNat<=57))(h2:¬ c.toNat=95)
 (h3:¬ (c.toNat=32∨c.toNat=9∨c.toNat=10∨c.toNat=13)):Cw c=if Pc c then 4 else 0:=by
 have h4:JM c=false:=by rw[yi];simp[JM];omega
 simp[Cw,nd h1,nl h,h2,h4]
theorem QM(c:UInt8):(decide (0<=Lib.indexByte QL ((c.toNat:Int)).toNat.toUInt8))=Pc c:=by
 have:((c.toNat:Int)).toNat.toUInt8=c:=by simp
 rw[this];exact (Lib.contains_iff_indexByte QL c).symm
theorem Of(c:UInt8)(w:World):Calls Try.prog 97 #[.string {data:=#[123,125,40,41,59,44,61,58,46,60,62,33,43,45,42,47]},.int .u8 (c.toNat:Int)] w fun e w'=>∃n:Int,e=.returned (.int .i64 n)∧decide (0<=n)=Pc c∧w=w':=
 (Try.strings_IndexByte _ _ w).mono fun _ _ h=>⟨_,h.1,QM c,h.2.symm⟩
theorem Hb(c:UInt8)(w:World):
  Calls Try.prog 91 #[.int .u8 (c.toNat:Int)] w fun e w'=>e=.returned (.int .i64 (Cw c))∧w=w':=by
 generalize hN:Cw c=N
 have d:=yb hN;clear hN
 go_enter Try.func91,Try.ntmps91
 go_wp2_with (first|(go_at_call 97;refine (Of _ _).mono ?_;rintro e w' ⟨n,rfl,a,rfl⟩;have b:=yb a;clear a))
 all_goals
  go_ret
  refine ⟨Ju ?_,rfl⟩
  rw[<-d.o]
  try simp only[beq_iff_eq,beq_eq_false_iff_ne,ne_eq] at*
  first
  |exact (M6 (by omega)).symm
  |exact (MN (by omega)).symm
  |exact (Od (by omega)).symm
  |exact (MO (by omega)).symm
  |(rw[Oe (by omega) (by omega) (by omega) (by omega),<-b.o];simp[*])
def FO:List UInt8->Bool
 |[]=>false
 |c::r=>decide ((c::r).length<=32)&&CU c&&(c::r).all Fl
theorem PR(s:ByteArray)(k:Nat)(h:k < s.size):s.data.toList.take (k+1)=s.data.toList.take k++[s[k]]:=by
 rw[yq (by simpa using h)];rfl
theorem FG(s:ByteArray):s.data.toList.length=s.size:=by simp
theorem GL{s:ByteArray}(h:0 < s.size):FO s.data.toList=(decide (s.size<=32)&&CU (s[0])&&s.data.toList.all Fl):=by
 obtain ⟨⟨l⟩⟩:=s
 cases l with
 |nil=>simp[ByteArray.size] at h
 |cons c r=>rfl
theorem MQ{s:ByteArray}(h:¬ 0 < s.size):FO s.data.toList=false:=by
 obtain ⟨⟨l⟩⟩:=s
 cases l with
 |nil=>rfl
 |cons c r=>simp[ByteArray.size] at h
theorem Og{s:ByteArray}(h0:0 < s.size)(h:¬ s.size<=32):FO s.data.toList=false:=by rw[GL h0];simp[h]
theorem MT{s:ByteArray}(h0:0 < s.size)(h:CU s[0]=false):FO s.data.toList=false:=by rw[GL h0];simp[h]
theorem Oh{s:ByteArray}{k:Nat}(a:k < s.size)(h:Fl s[k]=false):FO s.data.toList=false:=by
 rw[GL (by omega)]
 have:s.data.toList.all Fl=false:=by
  rw[xr]
  exact ⟨s[k],by rw[Array.mem_toList_iff];exact Array.getElem_mem _,by simp[h]⟩
 rw[this];simp
theorem PS{s:ByteArray}(h0:0 < s.size)(a:s.size<=32)(h:CU s[0]=true)(b:(s.data.toList.take s.size).all Fl=true):FO s.data.toList=true:=by
 rw[xN (by simp)] at b
 rw[GL h0,b,h];simp[a]
theorem QN{s:ByteArray}{k:Nat}(a:k < s.size)(b:(s.data.toList.take k).all Fl=true)(h:Fl s[k]=true):(s.data.toList.take (k+1)).all Fl=true:=by
 rw[PR s k a,zh,b];simp[h]
theorem QO(P:UInt8->Bool)(h:(List.range 256).all (fun n=>P n.toUInt8)=true)(c:UInt8):P c=true:=by
 have:=yL.1 h c.toNat (by rw[yZ];exact c.toNat_lt)
 simpa using this
theorem Pd(c:UInt8):(Cw c==2)=CU c:=by
 have:=QO (fun c=>(Cw c==2)==CU c) (by decide+kernel) c
 simpa using this
theorem Jv(c:UInt8):(Cw c==2||Cw c==3||Cw c==5)=Fl c:=by
 have:=QO (fun c=>(Cw c==2||Cw c==3||Cw c==5)==Fl c) (by decide+kernel) c
 simpa using this
theorem PT{s:ByteArray}(h:0 < s.size):s.toList.isEmpty=false:=by
 rw[zF,List.isEmpty_eq_false_iff];intro e;have:=FG s;rw[e] at this;simp at this;omega
theorem QP{s:ByteArray}(h:¬ 0 < s.size):s.toList.isEmpty=true:=by
 rw[zF,List.isEmpty_iff,<-z6,FG];omega
theorem QQ(c:UInt8)(n:Int)(h:Cw c=n)(w:World):
  Calls Try.prog 91 #[.int .u8 (c.toNat:Int)] w fun e w'=>e=.returned (.int .i64 n)∧w=w':=by
 rw[<-h];exact Hb c w
theorem PU{c:UInt8}(h:CU c=true):Cw c=2:=by
 have:=Pd c
 rw[h] at this
 simpa using this
theorem JN(c:UInt8)(h:CU c=false)(w:World):
  Calls Try.prog 91 #[.int .u8 (c.toNat:Int)] w fun e w'=>∃n:Int,(n !=2)=true∧e=.returned (.int .i64 n)∧w=w':=
 (Hb c w).mono fun _ _ a=>⟨_,by have:=Pd c;rw[h] at this;simpa using this,a⟩
theorem Oi(c:UInt8)(h:Fl c=true)(w:World):
  Calls Try.prog 91 #[.int .u8 (c.toNat:Int)] w fun e w'=>∃n:Int,(n=2∨n=3∨n=5)∧e=.returned (.int .i64 n)∧w=w':=
 (Hb c w).mono fun _ _ a=>⟨_,by have:=Jv c;rw[h] at this;simpa[or_assoc] using this,a⟩
theorem M7(c:UInt8)(h:Fl c=false)(w:World):
  Calls Try.prog 91 #[.int .u8 (c.toNat:Int)] w fun e w'=>∃n:Int,(n !=2)=true∧(n !=3)=true∧(n !=5)=true∧e=.returned (.int .i64 n)∧w=w':=
 (Hb c w).mono fun _ _ a=>⟨_,by have:=Jv c;rw[h] at this;simp at this;simp[this],by have:=Jv c;rw[h] at this;simp at this;simp[this],by have:=Jv c;rw[h] at this;simp at this;simp[this],a⟩
theorem QR(s:ByteArray)(w:World)(hs:s.size<=maxLen):
  Calls Try.prog 69 #[.string s] w fun e w'=>e=.returned (.bool (FO s.data.toList))∧w=w':=by
 unfold maxLen at hs
 generalize hN:FO s.data.toList=N
 have c:=yb hN;clear hN
 by_cases h0:0 < s.size
 ·have h:=PT h0
  by_cases a:s.size<=32
  ·have l:decide (32 < (s.size:Int))=false:=by simp;omega
   by_cases hl:CU s[0]=true
   ·have b:=yb hl;clear hl
    go_enter Try.func69,Try.ntmps69
    go_wp2_with (first|(go_at_call 91;refine (QQ _ 2 (PU b.o) _).mono ?_;rintro e w' ⟨rfl,rfl⟩))
    go_loop [3,4,20] (fun _ _ i=>∃k:Nat,k<=s.size∧i=iV k∧(s.data.toList.take k).all Fl=true) (fun _ _ i=>s.size - (intOf i).toNat)
    case atStart=>exact ⟨0,by omega,rfl,rfl⟩
    case round=>
     obtain ⟨k,p,rfl,j⟩:=hrel
     have m:=yb j;clear j
     by_cases d:k < s.size
     ·by_cases g:Fl s[k]=true
      ·have f:=yb g;clear g
       go_wp2_with (first|(go_at_call 91;refine (Oi _ f.o _).mono ?_;rintro e w' ⟨n1,(rfl|rfl|rfl),rfl,rfl⟩))
       all_goals exact ⟨⟨k+1,by omega,by go_num,QN d m.o f.o⟩,by simp[intOf];omega⟩
      ·have f:=yb (yi.2 g);clear g
       go_wp2_with (first|(go_at_call 91;refine (M7 _ f.o _).mono ?_;rintro e w' ⟨n1,c2,r,q,rfl,rfl⟩))
       go_ret
       exact ⟨Bn (by rw[<-c.o,Oh d f.o]),rfl⟩
     ·go_wp2
      go_ret
      obtain rfl:k=s.size:=by omega
      exact ⟨Bn (by rw[<-c.o,PS h0 a b.o m.o]),rfl⟩
   ·have b:=yb (yi.2 hl);clear hl
    go_enter Try.func69,Try.ntmps69
    go_wp2_with (first|(go_at_call 91;refine (JN _ b.o _).mono ?_;rintro e w' ⟨n0,n,rfl,rfl⟩))
    go_ret
    exact ⟨Bn (by rw[<-c.o,MT h0 b.o]),rfl⟩
  ·go_enter Try.func69,Try.ntmps69
   go_wp2_with fail
   go_ret
   exact ⟨Bn (by rw[<-c.o,Og h0 a]),rfl⟩
 ·have h:=QP h0
  go_enter Try.func69,Try.ntmps69
  go_wp2_with fail
  go_ret
  exact ⟨Bn (by rw[<-c.o,MQ h0]),rfl⟩
end Go.Proofs.Ytghepahgkcigpaa
namespace Go.Proofs.Ytghepahgkcigpaa
open Go.RowKit
attribute [local go_sem] Oper.semAt_some
def Jw(J:Nat->NP->World->Prop)(Jx:NP->World->Prop)(Jp:List PanicEntry->NP->World->Prop)(O:NP)(k:Nat)(W:World)(e:Ending)(W':World):Prop:=
 (e=.returned (.bool true)∧J k O W'∧Bv O W W')∨(e=.returned (.bool false)∧Jx O W'∧Bv O W W')∨∃a,e=.panicked a∧Jp a O W'∧Bv O W W'
theorem D4{O:NP}{W W':World}(h:Bv O W W'){b o:Nat}(hb:O b){v:Value}(hc:W.cell? ⟨b,o,none⟩=some v):W'.cell? ⟨b,o,none⟩=some v:=by
 unfold World.cell? at hc ⊢
 rw[h.2 b hb];exact hc
theorem Sj(n:Nat)(Q:1<=n)(l Bc g:Nat)(lt:Int)(ps:LV)(j:Nat)(O:NP)(J:Nat->NP->World->Prop)(Jx:NP->World->Prop)(Jp:List PanicEntry->NP->World->Prop)(W:World)
 (D:O Bc)(A:O g)(v:ps.length<=100)(hc:W.cell? ⟨Bc,0,none⟩=some (.func (.yield l) #[] #[]))(f:∀i (h:i < ps.length),W.cell? ⟨g,i,none⟩=some ps[i])(a:∀i (h:i < ps.length),∃p,ps[i]=.pointer (some p))
 (z:∀i (h:i < ps.length) W1,J (j+i) O W1->Bv O W W1->YieldAt Fence.wide (n - 1) Try.prog l #[ps[i],.int .i64 lt] W1 (Jw J Jx Jp O (j+i+1) W1))
 (h0:J j O W):
  CallsIn Fence.wide n Try.prog 90 #[.int .i64 lt,.slice (some ⟨g,0,none⟩) ps.length ps.length,.pointer (some ⟨Bc,0,none⟩)] W (Jw J Jx Jp O (j+ps.length) W):=by
 have H:=yb hc
 have r:=yb f
 have F:=yb z
 have M:=yb h0
 have G:=yb D
 have u:=yb A
 have k:=yb a
 generalize hN:ps.length=N at v ⊢
 have I:=yb hN
 clear hc f z h0 hN D A a
 refine callsIn_of_wp Try.func90 rfl trivial ?_ rfl
 simp only[Try.ntmps90,yB,yE,yI,Nat.reduceAdd,Nat.reduceSub,zJ,zK,zW,zQ,zj,z7]
 gi_wp2
 gi_loopw [10] (fun t wr=>∃i:Nat,i<=N∧t=iV i∧Hid (J (j+i) O wr)∧Hid (Bv O W wr)) (fun t _=>N - (intOf t).toNat)
 case atStart=>exact ⟨0,yz _,rfl,M,yb (Bv.refl _ _)⟩
 case round=>
  obtain ⟨i,hi,rfl,C,c⟩:=hrel
  by_cases s:i < N
  ·have b:i < ps.length:=by rw[I.o];exact s
   have c0:=D4 c.o G.o H.o
   have c1:=D4 c.o u.o (r.o i b)
   obtain ⟨p,m⟩:=k.o i b
   obtain ⟨fn,tmps,assign,body,K,B⟩:=F.o i b wr C.o c.o
   rw[m] at c1 K
   have L:=yb B
   have E:(i:Int) < (N:Int):=by omega
   clear B m
   gi_wp2
   refine L.o.mono ?_
   rintro e R (⟨rfl,y,hs⟩|⟨rfl,x,hs⟩|⟨P,rfl,m,hs⟩)
   ·have q:=yb y
    have d:=yb (c.o.trans hs)
    clear y hs
    gi_wp2
    exact ⟨⟨i+1,by omega,by go_num,q,d⟩,by simp[intOf];omega⟩
   ·have w:=yb x
    have d:=yb (c.o.trans hs)
    clear x hs
    gi_wp2
    go_ret
    exact .inr (.inl ⟨rfl,w.o,d.o⟩)
   ·exact ⟨rfl,.inr (.inr ⟨P,rfl,m,c.o.trans hs⟩)⟩
  ·obtain rfl:i=N:=by omega
   gi_wp2
   go_ret
   exact .inl ⟨rfl,C.o,c.o⟩
end Go.Proofs.Ytghepahgkcigpaa
namespace Go.Proofs.Ytghepahgkcigpaa
open Go.RowKit
structure Av where
 a:Option Addr
 n:Nat
 c:Nat
def Av.v(h:Av):Value:=.slice h.a h.n h.c
def Av.at(h:Av)(sz i off:Nat):Addr:=match h.a with
 |some ⟨b,o,_⟩=>⟨b,o+i*sz+off,none⟩
 |none=>⟨0,0,none⟩
def Av.ptr(h:Av)(sz i off:Nat):Value:=.pointer (some (h.at sz i off))
def Av.ok(h:Av):Prop:=h.n<=140737488355328∧(0 < h.n->∃b o,h.a=some ⟨b,o,none⟩)
theorem Av.ok.get{h:Av}(d:h.ok){i:Nat}(hi:i < h.n):∃b o,h.a=some ⟨b,o,none⟩∧∀sz i off,h.at sz i off=⟨b,o+i*sz+off,none⟩:=by
 obtain ⟨b,o,c⟩:=d.2 (by omega)
 exact ⟨b,o,c,fun sz i off=>by unfold Av.at;rw[c]⟩
structure Bh where
 s:Nat
 lets:Av
 crops:Av
 reaches:Av
 farms:Av
 rots:Av
 rights:Av
 duties:Av
 turns:List Av
def one(p:Value)(lt:Int):List (Array Value):=[#[p,.int .i64 lt]]
def Aq(ps:LV):List (Array Value):=ps.map fun p=>#[p,.int .i64 0]
def Ak(s:Nat):LV:=[.pointer (some ⟨s,1,none⟩),.pointer (some ⟨s,7,none⟩),.pointer (some ⟨s,13,none⟩)]
def Jy(h:Av)(i:Nat):LV:=[h.ptr 51 i 3,h.ptr 51 i 9,h.ptr 51 i 15,h.ptr 51 i 21,h.ptr 51 i 27,h.ptr 51 i 33,h.ptr 51 i 39,h.ptr 51 i 45]
def E2(h:Av)(i:Nat):LV:=[h.ptr 23 i 4,h.ptr 23 i 10,h.ptr 23 i 16]
def Jz(h:Av)(i:Nat):LV:=[h.ptr 37 i 7,h.ptr 37 i 13,h.ptr 37 i 19,h.ptr 37 i 25,h.ptr 37 i 31]
def A4(L:Bh)(i:Nat):Av:=L.turns.getD i ⟨none,0,0⟩
def Ar(L:Bh)(n:Nat):List (Array Value):=(List.range n).flatMap fun i=> [#[L.lets.ptr 7 i 1,.int .i64 (1+(i:Int))]]
def Al(L:Bh)(n:Nat):List (Array Value):=(List.range n).flatMap fun i=>Aq [L.crops.ptr 7 i 1]
def Ab(L:Bh)(n:Nat):List (Array Value):=(List.range n).flatMap fun i=>Aq (Jy L.reaches i)
def Aw(L:Bh)(n:Nat):List (Array Value):=(List.range n).flatMap fun i=>Aq [L.farms.ptr 12 i 4]
def BJ(h:Av)(n:Nat):List (Array Value):=(List.range n).flatMap fun k=>Aq [h.ptr 8 k 2]
def AY(L:Bh)(n:Nat):List (Array Value):=(List.range n).flatMap fun i=>Aq (E2 L.rots i)++BJ (A4 L i) (A4 L i).n
def AN(L:Bh)(n:Nat):List (Array Value):=(List.range n).flatMap fun i=>Aq (Jz L.rights i)
def Bp(L:Bh)(n:Nat):List (Array Value):=(List.range n).flatMap fun i=>Aq [L.duties.ptr 11 i 5]
def BO(L:Bh):List (Array Value):=
 Aq (Ak L.s)++(Ar L L.lets.n++(Al L L.crops.n++(Ab L L.reaches.n++(Aw L L.farms.n++(AY L L.rots.n++(AN L L.rights.n++Bp L L.duties.n))))))
structure I9 (L:Bh) (Bs:Nat) (W:World):Prop where
 box:W.cell? ⟨Bs,0,none⟩=some (.pointer (some ⟨L.s,0,none⟩))
 lets:W.cell? ⟨L.s,19,none⟩=some L.lets.v
 crops:W.cell? ⟨L.s,20,none⟩=some L.crops.v
 reaches:W.cell? ⟨L.s,21,none⟩=some L.reaches.v
 farms:W.cell? ⟨L.s,22,none⟩=some L.farms.v
 rots:W.cell? ⟨L.s,23,none⟩=some L.rots.v
 rights:W.cell? ⟨L.s,24,none⟩=some L.rights.v
 duties:W.cell? ⟨L.s,25,none⟩=some L.duties.v
 turns:∀i,i < L.rots.n->W.cell? (L.rots.at 23 i 22)=some (A4 L i).v
structure Bh.Ok (L:Bh):Prop where
 lets:L.lets.ok
 crops:L.crops.ok
 reaches:L.reaches.ok
 farms:L.farms.ok
 rots:L.rots.ok
 rights:L.rights.ok
 duties:L.duties.ok
 turns:∀i,i < L.rots.n->(A4 L i).ok
theorem Bz{α:Type}(f:Nat->List α){n i:Nat}(h:i < n):∃post,(List.range n).flatMap f=(List.range i).flatMap f++(f i++post):=by
 obtain ⟨m,rfl⟩:∃m,n=(i+1)+m:=⟨n - (i+1),by omega⟩
 rw[List.range_add,zB,List.range_succ,zB]
 exact ⟨_,by simp[yl];rfl⟩
theorem Am{α:Type}(f:Nat->List α)(i:Nat):(List.range (i+1)).flatMap f=(List.range i).flatMap f++f i:=by
 rw[List.range_succ,zB];simp
structure Ue (n l:Nat) (P:Program) (xs:List (Array Value)) (Hd:World->Prop) (J:Nat->(Nat->Prop)->World->Prop) (Jx:(Nat->Prop)->World->Prop) (Jp:List PanicEntry->(Nat->Prop)->World->Prop) (W0:World):Prop where
 stays:Dp J
 staysx:Dp (fun (_:Unit)=>Jx)
 hd:∀k O W,J k O W->Hd W
 hdx:∀O W,Jx O W->Hd W
 round:∀k (hk:k < xs.length) O W1,J k O W1->W0.heap.size<=W1.heap.size->(∀b,O b->W0.heap.size<=b∧b < W1.heap.size)->YieldAt Fence.wide n P l xs[k] W1 (Jw J Jx Jp O (k+1) W1)
structure Hu (J:Nat->(Nat->Prop)->World->Prop) (W0:World) (l Bc k:Nat) (O:Nat->Prop) (wr:World):Prop where
 j:J k O wr
 bc:O Bc
 box:wr.cell? ⟨Bc,0,none⟩=some (.func (.yield l) #[] #[])
 size:W0.heap.size<=wr.heap.size
 own:∀b,O b->W0.heap.size<=b∧b < wr.heap.size
section
variable{n l Bc k:Nat}{P:Program}{xs:List (Array Value)}{Hd:World->Prop}{J:Nat->NP->World->Prop}{Jx:NP->World->Prop}{Jp:List PanicEntry->NP->World->Prop}{W0 wr w2:World}{O:NP}
theorem Ej{β:Type}{J:β->NP->World->Prop}(h:Dp J){s:β}{O:NP}{W W':World}(d:J s O W)(hb:Below W.heap.size W W'):J s (fun b=>O b∨(W.heap.size<=b∧b < W'.heap.size)) W':=
 h s O W _ W' d hb.size hb.os hb.tape hb.output (fun b _ c=>hb.block b c) (fun _ a=>a.elim .inl (fun h=>.inr h.1))
theorem Hu.below(hc:Ue n l P xs Hd J Jx Jp W0)(h:Hu J W0 l Bc k O wr)(hb:Below wr.heap.size wr w2):Hu J W0 l Bc k (fun b=>O b∨(wr.heap.size<=b∧b < w2.heap.size)) w2:=
 ⟨Ej hc.stays h.j hb,.inl h.bc,(hb.cell (p:=⟨Bc,0,none⟩) (h.own _ h.bc).2).trans h.box,yr h.size hb.size,fun b a=>by
  rcases a with a|a
  ·have:=h.own b a;have:=hb.size;omega
  ·have:=h.size;omega⟩
def Uj(J:Nat->NP->World->Prop)(Jx:NP->World->Prop)(Jp:List PanicEntry->NP->World->Prop)(W0:World)(l Bc k:Nat)(e:Ending)(W':World):Prop:=
 (∃r:Bool,e=.returned (.bool r)∧((r=true∧∃a,Hu J W0 l Bc k a W')∨(r=false∧∃a,Jx a W')))∨∃b,e=.panicked b∧∃a,Jp b a W'
theorem Dh(hc:Ue (n - 1) l Try.prog xs Hd J Jx Jp W0)(s:1<=n){pre:List (Array Value)}(h:Hu J W0 l Bc pre.length O wr)(lt:Int)(a:Array Value)(N:Nat)(hN:a.size=N)(t:TypeId)(f:∃post,xs=pre++(a.toList.map (fun p=>#[p,.int .i64 lt])++post))(o:N<=100)(d:∀p∈a.toList,∃q,p=.pointer (some q))(g:Nat)(x:g=wr.heap.size):
  Calls Try.prog 90 #[.int .i64 lt,.slice (some ⟨g,0,none⟩) N N,.pointer (some ⟨Bc,0,none⟩)] (wr.alloc (.cells a t)) (Uj J Jx Jp W0 l Bc (pre.length+N)):=by
 subst hN x
 have hb:Below wr.heap.size wr (wr.alloc (.cells a t)):=(yg _ _).alloc (ye _) _
 have h2:=h.below hc hb
 have c:a.toList.length=a.size:=by simp
 refine z8.1 ((Sj n s l Bc wr.heap.size lt a.toList pre.length _ J Jx Jp _ h2.bc (.inr ⟨ye _,by simp⟩) (by rw[c];exact o) h2.box (fun i hi=>?_) (fun i hi=>d _ (yy hi)) (fun i hi v k hs=>?_) h2.j).mono ?_)
 ·have:(wr.alloc (.cells a t)).heap[wr.heap.size]?=some (.cells a t (0,0)):=World.alloc_heap_new _ _
  simp only[World.cell?,this]
  simp[c▸hi]
 ·obtain ⟨post,f⟩:=f
  have r:pre.length+i < xs.length:=by rw[f];simp;simp at hi;omega
  have y:xs[pre.length+i]=#[a.toList[i],iV lt]:=by
   subst f
   rw[xW (by omega)]
   simp only[xH]
   rw[xZ (by simpa using hi),zS]
  have:=hc.round (pre.length+i) r _ v k (yr h2.size hs.1) (fun b hb=>by have:=h2.own b hb;have:=hs.1;omega)
  rw[y] at this
  exact this
 ·rintro e W' (⟨rfl,k,hs⟩|⟨rfl,m,hs⟩|⟨w,rfl,u,_⟩)
  ·rw[c] at k
   exact .inl ⟨true,rfl,.inl ⟨rfl,_,k,h2.bc,D4 hs h2.bc h2.box,yr h2.size hs.1,fun b hb=>by have:=h2.own b hb;have:=hs.1;omega⟩⟩
  ·exact .inl ⟨false,rfl,.inr ⟨rfl,_,m⟩⟩
  ·exact .inr ⟨w,rfl,_,u⟩
end
structure Rf where
 name:ByteArray
 n:Int
structure Dx where
 name:ByteArray
 value:Ex
structure BY where
 name:ByteArray
 need:Ex
structure Ax where
 name:ByteArray
 frm:Rf
 delay:Ex
 cap:Ex
 bank:Ex
 siphon:Ex
 evap0:Ex
 evap1:Ex
 seep0:Ex
 seep1:Ex
structure BL where
 name:ByteArray
 on:Rf
 river:Bool
 area:Ex
 crop:Rf
structure Bt where
 farm:Rf
 len:Ex
structure B7 where
 name:ByteArray
 on:Rf
 rank:Int
 flow:Ex
 frm:Ex
 to:Ex
 turns:List Bt
structure AG where
 kind:Int
 name:ByteArray
 farm:Rf
 reach:Rf
 rank:Int
 flow:Ex
 frm:Ex
 to:Ex
 every:Ex
 len:Ex
structure Ce where
 name:ByteArray
 farm:Rf
 reach:Rf
 due:Ex
structure An where
 name:ByteArray
 season:Ex
 cap:Ex
 start:Ex
 lets:List Dx
 crops:List BY
 reaches:List Ax
 farms:List BL
 rots:List B7
 rights:List AG
 duties:List Ce
def Az{α:Type}(N:NP)(w:World)(sz:Nat)(P:LV->α->Prop)(h:Av)(l:List α):Prop:=
 h.n=l.length∧l.length<=140737488355328∧∀i (hi:i < l.length),∃b o cs,h.a=some ⟨b,o,none⟩∧N b∧cs.length=sz∧w.rangeAt b (o+i*sz) cs∧P cs l[i]
def Ah(r:Rf):LV:=[.string r.name,.int .i64 r.n]
section
variable(N:NP)(w:World)
def FP(cs:LV)(d:Dx):Prop:=d.name.size<=maxLen∧∃c,cs=.string d.name::c∧AP N w d.value c
def Dq(cs:LV)(d:BY):Prop:=d.name.size<=maxLen∧∃c,cs=.string d.name::c∧AP N w d.need c
def CG(cs:LV)(d:Ax):Prop:=d.name.size<=maxLen∧d.frm.name.size<=maxLen∧∃c0 c1 c2 b a c e f,cs=.string d.name::(Ah d.frm++(c0++(c1++(c2++(b++(a++(c++(e++f))))))))∧
 AP N w d.delay c0∧AP N w d.cap c1∧AP N w d.bank c2∧AP N w d.siphon b∧AP N w d.evap0 a∧AP N w d.evap1 c∧AP N w d.seep0 e∧AP N w d.seep1 f
def DE(cs:LV)(d:BL):Prop:=d.name.size<=maxLen∧d.on.name.size<=maxLen∧d.crop.name.size<=maxLen∧∃c,cs=.string d.name::(Ah d.on++(.bool d.river::(c++Ah d.crop)))∧AP N w d.area c
def Dm(cs:LV)(d:Bt):Prop:=d.farm.name.size<=maxLen∧∃c,cs=Ah d.farm++c∧AP N w d.len c
def Gg(h:Av)(cs:LV)(d:B7):Prop:=d.name.size<=maxLen∧d.on.name.size<=maxLen∧∃c0 c1 c2,cs=.string d.name::(Ah d.on++(.int .i64 d.rank::(c0++(c1++(c2++[h.v])))))∧
 AP N w d.flow c0∧AP N w d.frm c1∧AP N w d.to c2∧Az N w 8 (Dm N w) h d.turns
def CH(cs:LV)(d:AG):Prop:=d.name.size<=maxLen∧d.farm.name.size<=maxLen∧d.reach.name.size<=maxLen∧∃c0 c1 c2 b a,cs=.int .i64 d.kind::.string d.name::(Ah d.farm++(Ah d.reach++(.int .i64 d.rank::(c0++(c1++(c2++(b++a)))))))∧
 AP N w d.flow c0∧AP N w d.frm c1∧AP N w d.to c2∧AP N w d.every b∧AP N w d.len a
def DF(cs:LV)(d:Ce):Prop:=d.name.size<=maxLen∧d.farm.name.size<=maxLen∧d.reach.name.size<=maxLen∧∃c,cs=.string d.name::(Ah d.farm++(Ah d.reach++c))∧AP N w d.due c
structure B8 (L:Bh) (cs:List Value) (x:An):Prop where
 name:x.name.size<=maxLen
 cells:∃c0 c1 c2,cs=.string x.name::(c0++(c1++(c2++[L.lets.v,L.crops.v,L.reaches.v,L.farms.v,L.rots.v,L.rights.v,L.duties.v])))∧AP N w x.season c0∧AP N w x.cap c1∧AP N w x.start c2
 lets:Az N w 7 (FP N w) L.lets x.lets
 crops:Az N w 7 (Dq N w) L.crops x.crops
 reaches:Az N w 51 (CG N w) L.reaches x.reaches
 farms:Az N w 12 (DE N w) L.farms x.farms
 rots:L.rots.n=x.rots.length∧x.rots.length<=140737488355328∧∀i (hi:i < x.rots.length),∃b o cs,L.rots.a=some ⟨b,o,none⟩∧N b∧cs.length=23∧w.rangeAt b (o+i*23) cs∧Gg N w (A4 L i) cs x.rots[i]
 rights:Az N w 37 (CH N w) L.rights x.rights
 duties:Az N w 11 (DF N w) L.duties x.duties
end
section
variable{N N':NP}{w w':World}
theorem Az.same{α:Type}{sz:Nat}{P a:LV->α->Prop}{h:Av}{l:List α}(f:∀b,N b->N' b)(hb:∀b,N b->w'.heap[b]?=w.heap[b]?)(j:∀cs d,P cs d->a cs d)(e:Az N w sz P h l):Az N' w' sz a h l:=by
 obtain ⟨h1,h2,h3⟩:=e
 refine ⟨h1,h2,fun i hi=>?_⟩
 obtain ⟨b,o,cs,g1,c,g,m,k⟩:=h3 i hi
 exact ⟨b,o,cs,g1,f b c,g,A2 m (hb b c),j _ _ k⟩
theorem Az.ok{α:Type}{sz:Nat}{P:LV->α->Prop}{h:Av}{l:List α}(a:Az N w sz P h l):h.ok:=by
 obtain ⟨h1,h2,h3⟩:=a
 refine ⟨by omega,fun c=>?_⟩
 obtain ⟨b,o,_,g1,_⟩:=h3 0 (by omega)
 exact ⟨b,o,g1⟩
theorem FP.same(a:∀b,N b->N' b)(hb:∀b,N b->w'.heap[b]?=w.heap[b]?){cs:LV}{d:Dx}(h:FP N w cs d):FP N' w' cs d:=by
 obtain ⟨h1,c,h2,h3⟩:=h
 exact ⟨h1,c,h2,h3.same a hb⟩
theorem Dq.same(a:∀b,N b->N' b)(hb:∀b,N b->w'.heap[b]?=w.heap[b]?){cs:LV}{d:BY}(h:Dq N w cs d):Dq N' w' cs d:=by
 obtain ⟨h1,c,h2,h3⟩:=h
 exact ⟨h1,c,h2,h3.same a hb⟩
theorem CG.same(a:∀b,N b->N' b)(hb:∀b,N b->w'.heap[b]?=w.heap[b]?){cs:LV}{d:Ax}(h:CG N w cs d):CG N' w' cs d:=by
 obtain ⟨h1,h2,c0,c1,c2,j,o,c,k,e,h3,l,g1,p,g,n,i,m,f⟩:=h
 exact ⟨h1,h2,c0,c1,c2,j,o,c,k,e,h3,l.same a hb,g1.same a hb,p.same a hb,g.same a hb,n.same a hb,i.same a hb,m.same a hb,f.same a hb⟩
theorem DE.same(a:∀b,N b->N' b)(hb:∀b,N b->w'.heap[b]?=w.heap[b]?){cs:LV}{d:BL}(h:DE N w cs d):DE N' w' cs d:=by
 obtain ⟨h1,h2,h3,c,h4,g⟩:=h
 exact ⟨h1,h2,h3,c,h4,g.same a hb⟩
theorem Dm.same(a:∀b,N b->N' b)(hb:∀b,N b->w'.heap[b]?=w.heap[b]?){cs:LV}{d:Bt}(h:Dm N w cs d):Dm N' w' cs d:=by
 obtain ⟨h1,c,h2,g⟩:=h
 exact ⟨h1,c,h2,g.same a hb⟩
theorem Gg.same(a:∀b,N b->N' b)(hb:∀b,N b->w'.heap[b]?=w.heap[b]?){t:Av}{cs:LV}{d:B7}(h:Gg N w t cs d):Gg N' w' t cs d:=by
 obtain ⟨h1,h2,c0,c1,c2,h3,e,g1,c,f⟩:=h
 exact ⟨h1,h2,c0,c1,c2,h3,e.same a hb,g1.same a hb,c.same a hb,f.same a hb (fun _ _ h=>h.same a hb)⟩
theorem CH.same(a:∀b,N b->N' b)(hb:∀b,N b->w'.heap[b]?=w.heap[b]?){cs:LV}{d:AG}(h:CH N w cs d):CH N' w' cs d:=by
 obtain ⟨h1,h2,h3,c0,c1,c2,e,i,h4,f,g1,j,c,g⟩:=h
 exact ⟨h1,h2,h3,c0,c1,c2,e,i,h4,f.same a hb,g1.same a hb,j.same a hb,c.same a hb,g.same a hb⟩
theorem DF.same(a:∀b,N b->N' b)(hb:∀b,N b->w'.heap[b]?=w.heap[b]?){cs:LV}{d:Ce}(h:DF N w cs d):DF N' w' cs d:=by
 obtain ⟨h1,h2,h3,c,h4,g⟩:=h
 exact ⟨h1,h2,h3,c,h4,g.same a hb⟩
theorem B8.same(a:∀b,N b->N' b)(hb:∀b,N b->w'.heap[b]?=w.heap[b]?){L:Bh}{cs:LV}{x:An}(h:B8 N w L cs x):B8 N' w' L cs x:=by
 refine ⟨h.name,?_,h.lets.same a hb (fun _ _ h=>h.same a hb),h.crops.same a hb (fun _ _ h=>h.same a hb),h.reaches.same a hb (fun _ _ h=>h.same a hb),h.farms.same a hb (fun _ _ h=>h.same a hb),?_,h.rights.same a hb (fun _ _ h=>h.same a hb),h.duties.same a hb (fun _ _ h=>h.same a hb)⟩
 ·obtain ⟨c0,c1,c2,h1,f,g1,c⟩:=h.cells
  exact ⟨c0,c1,c2,h1,f.same a hb,g1.same a hb,c.same a hb⟩
 ·obtain ⟨h1,h2,h3⟩:=h.rots
  refine ⟨h1,h2,fun i hi=>?_⟩
  obtain ⟨b,o,cs,g1,c,d,g,e⟩:=h3 i hi
  exact ⟨b,o,cs,g1,a b c,d,A2 g (hb b c),e.same a hb⟩
theorem B8.ok{L:Bh}{cs:LV}{x:An}(h:B8 N w L cs x):L.Ok:=by
 obtain ⟨h1,h2,h3⟩:=h.rots
 refine ⟨h.lets.ok,h.crops.ok,h.reaches.ok,h.farms.ok,⟨by omega,fun a=>?_⟩,h.rights.ok,h.duties.ok,fun i hi=>?_⟩
 ·obtain ⟨b,o,_,g1,_⟩:=h3 0 (by omega)
  exact ⟨b,o,g1⟩
 ·obtain ⟨_,_,_,_,_,_,_,g⟩:=h3 i (by omega)
  obtain ⟨_,_,_,_,_,_,_,_,_,g⟩:=g
  exact g.ok
end
def At{α β:Type}(R:α->β->Prop):List α->List β->Prop
 |[],[]=>True
 |a::l,b::m=>R a b∧At R l m
 |_,_=>False
section
variable{α β:Type}{R:α->β->Prop}
theorem At.append:∀ {l:List α} {m:List β} {l':List α} {a:List β},At R l m->At R l' a->At R (l++l') (m++a)
 |[],[],_,_,_,h=>h
 |_::_,_::_,_,_,h,h'=>⟨h.1,h.2.append h'⟩
 |[],_::_,_,_,h,_=>h.elim
 |_::_,[],_,_,h,_=>h.elim
theorem At.length:∀ {l:List α} {m:List β},At R l m->l.length=m.length
 |[],[],_=>rfl
 |_::_,_::_,h=>by simp[h.2.length]
 |[],_::_,h=>h.elim
 |_::_,[],h=>h.elim
theorem At.get:∀ {l:List α} {m:List β},At R l m->∀i (h:i < l.length) (a:i < m.length),R l[i] m[i]
 |[],_,_,i,h,_=>by simp at h
 |_::_,_::_,h,0,_,_=>h.1
 |_::_,_::_,h,i+1,h1,h2=>h.2.get i (by simpa using h1) (by simpa using h2)
 |_::_,[],h,_,_,_=>h.elim
theorem At.mono{R':α->β->Prop}(c:∀a b,R a b->R' a b):∀ {l:List α} {m:List β},At R l m->At R' l m
 |[],[],h=>h
 |_::_,_::_,h=>⟨c _ _ h.1,h.2.mono c⟩
 |[],_::_,h=>h.elim
 |_::_,[],h=>h.elim
theorem Lb{γ:Type}(f:Nat->List α)(g:Nat->γ->List β):∀(l:List γ) (k:Nat),(∀i (h:i < l.length),At R (f (k+i)) (g (k+i) l[i]))->At R ((List.range' k l.length).flatMap f) ((l.zipIdx k).flatMap fun p=>g p.2 p.1)
 |[],_,_=>by simp[At]
 |x::r,k,h=>by
  rw[yE,List.range'_succ,zp,List.zipIdx_cons,zp]
  refine (h 0 (by simp)).append (Lb f g r (k+1) fun i hi=>?_)
  have:=h (i+1) (by simpa using hi)
  rw[show k+1+i=k+(i+1) by omega]
  simpa using this
theorem B9{γ:Type}(f:Nat->List α)(g:Nat->γ->List β)(l:List γ)(n:Nat)(a:n=l.length)(h:∀i (h:i < l.length),At R (f i) (g i l[i])):At R ((List.range n).flatMap f) (l.zipIdx.flatMap fun p=>g p.2 p.1):=by
 subst a
 rw[List.range_eq_range']
 exact Lb f g l 0 (fun i hi=>by rw[yA];exact h i hi)
end
abbrev KK:=Ex × Int
def J7(l:List Dx):List KK:=l.zipIdx.flatMap fun p=> [(p.1.value,1+(p.2:Int))]
def GM(l:List BY):List KK:=l.zipIdx.flatMap fun p=> [(p.1.need,0)]
def Eo(l:List Ax):List KK:=l.zipIdx.flatMap fun p=> [(p.1.delay,0),(p.1.cap,0),(p.1.bank,0),(p.1.siphon,0),(p.1.evap0,0),(p.1.evap1,0),(p.1.seep0,0),(p.1.seep1,0)]
def GN(l:List BL):List KK:=l.zipIdx.flatMap fun p=> [(p.1.area,0)]
def DL(l:List Bt):List KK:=l.zipIdx.flatMap fun p=> [(p.1.len,0)]
def Ia(l:List B7):List KK:=l.zipIdx.flatMap fun p=> [(p.1.flow,0),(p.1.frm,0),(p.1.to,0)]++DL p.1.turns
def Fm(l:List AG):List KK:=l.zipIdx.flatMap fun p=> [(p.1.flow,0),(p.1.frm,0),(p.1.to,0),(p.1.every,0),(p.1.len,0)]
def Fo(l:List Ce):List KK:=l.zipIdx.flatMap fun p=> [(p.1.due,0)]
def AL(x:An):List KK:=
 [(x.season,0),(x.cap,0),(x.start,0)]++(J7 x.lets++(GM x.crops++(Eo x.reaches++(GN x.farms++(Ia x.rots++(Fm x.rights++Fo x.duties))))))
def Uk(N:NP)(s:Nat)(w:World)(a:Array Value)(e:KK):Prop:=
 ∃b o cs,a=#[.pointer (some ⟨b,o,none⟩),.int .i64 e.2]∧(b=s∨N b)∧w.rangeAt b o cs∧AP N w e.1 cs
theorem AK{w:World}{b o:Nat}{p c q:LV}(h:w.rangeAt b o (p++(c++q))):w.rangeAt b (o+p.length) c:=fun j v a=>by
 have d:=(yD.1 a).1
 have:=h (p.length+j) v (by rw[yS (by omega),xH,zx d];exact a)
 rw[show o+p.length+j=o+(p.length+j) by omega];exact this
theorem AP.len{N:NP}{w:World}{e:Ex}{c:LV}(h:AP N w e c):c.length=6:=by
 obtain ⟨a,cap,rfl,_⟩:=h.cells;rfl
theorem CI{N:NP}{s:Nat}{w:World}{h:Av}{b o sz i off:Nat}{p c q:LV}{e:Ex}(lt:Int)(a:∀sz i off,h.at sz i off=⟨b,o+i*sz+off,none⟩)(hb:b=s∨N b){cs:LV}(d:w.rangeAt b (o+i*sz) cs)(hc:cs=p++(c++q))(f:p.length=off)(g:AP N w e c):
  Uk N s w #[h.ptr sz i off,.int .i64 lt] (e,lt):=by
 subst hc
 refine ⟨b,o+i*sz+off,c,?_,hb,?_,g⟩
 ·unfold Av.ptr;rw[a]
 ·have:=AK d
  rw[f] at this;exact this
theorem AU{h:Av}{b o:Nat}(c:h.a=some ⟨b,o,none⟩):∀sz i off,h.at sz i off=⟨b,o+i*sz+off,none⟩:=fun sz i off=>by unfold Av.at;rw[c]
theorem A7(r:Rf):(Ah r).length=2:=rfl
section
variable{N:NP}{w:World}{L:Bh}{cs:LV}{x:An}
theorem HY(h:B8 N w L cs x)(C:w.rangeAt L.s 0 cs):At (Uk N L.s w) (BO L) (AL x):=by
 refine At.append ?_ (At.append ?_ (At.append ?_ (At.append ?_ (At.append ?_ (At.append ?_ (At.append ?_ ?_))))))
 ·obtain ⟨c0,c1,c2,rfl,H,g1,a⟩:=h.cells
  have f:=H.len
  have g:=g1.len
  refine ⟨⟨L.s,1,c0,rfl,.inl rfl,?_,H⟩,⟨L.s,7,c1,rfl,.inl rfl,?_,g1⟩,⟨L.s,13,c2,rfl,.inl rfl,?_,a⟩,trivial⟩
  ·exact AK (p:=[.string x.name]) (o:=0) C
  ·have:=AK (p:=.string x.name::c0) (c:=c1) (q:=c2++[L.lets.v,L.crops.v,L.reaches.v,L.farms.v,L.rots.v,L.rights.v,L.duties.v]) (o:=0) (b:=L.s) (w:=w) (by simpa using C)
   simpa[f] using this
  ·have:=AK (p:=.string x.name::(c0++c1)) (c:=c2) (q:=[L.lets.v,L.crops.v,L.reaches.v,L.farms.v,L.rots.v,L.rights.v,L.duties.v]) (o:=0) (b:=L.s) (w:=w) (by simpa using C)
   simpa[f,g] using this
 ·obtain ⟨h1,h2,h3⟩:=h.lets
  refine B9 _ (fun i (d:Dx)=> [(d.value,1+(i:Int))]) x.lets _ h1 fun i hi=>?_
  obtain ⟨b,o,cs,g1,a,r,e,_,c,rfl,j⟩:=h3 i hi
  exact ⟨CI (p:=[.string (x.lets[i]).name]) (q:=[]) _ (AU g1) (.inr a) e (by simp) rfl j,trivial⟩
 ·obtain ⟨h1,h2,h3⟩:=h.crops
  refine B9 _ (fun i (d:BY)=> [(d.need,0)]) x.crops _ h1 fun i hi=>?_
  obtain ⟨b,o,cs,g1,a,r,e,_,c,rfl,j⟩:=h3 i hi
  exact ⟨CI (p:=[.string (x.crops[i]).name]) (q:=[]) _ (AU g1) (.inr a) e (by simp) rfl j,trivial⟩
 ·obtain ⟨h1,h2,h3⟩:=h.reaches
  refine B9 _ (fun i (d:Ax)=> [(d.delay,0),(d.cap,0),(d.bank,0),(d.siphon,0),(d.evap0,0),(d.evap1,0),(d.seep0,0),(d.seep1,0)]) x.reaches _ h1 fun i hi=>?_
  obtain ⟨b,o,cs,g1,a,r,e,_,_,c0,c1,c2,u,B,F,K,Q,rfl,m,l,t,z,A,E,I,M⟩:=h3 i hi
  generalize x.reaches[i]=d at*
  have f:=m.len;have g:=l.len;have n:=t.len;have y:=z.len;have D:=A.len;have G:=E.len;have O:=I.len
  refine ⟨?_,?_,?_,?_,?_,?_,?_,?_,trivial⟩
  ·exact CI (p:=.string d.name::Ah d.frm) _ (AU g1) (.inr a) e (by simp;rfl) rfl m
  ·exact CI (p:=.string d.name::(Ah d.frm++c0)) _ (AU g1) (.inr a) e (by simp;rfl) (by simp[A7,f]) l
  ·exact CI (p:=.string d.name::(Ah d.frm++(c0++c1))) _ (AU g1) (.inr a) e (by simp;rfl) (by simp[A7,f,g]) t
  ·exact CI (p:=.string d.name::(Ah d.frm++(c0++(c1++c2)))) _ (AU g1) (.inr a) e (by simp;rfl) (by simp[A7,f,g,n]) z
  ·exact CI (p:=.string d.name::(Ah d.frm++(c0++(c1++(c2++u))))) _ (AU g1) (.inr a) e (by simp;rfl) (by simp[A7,f,g,n,y]) A
  ·exact CI (p:=.string d.name::(Ah d.frm++(c0++(c1++(c2++(u++B)))))) _ (AU g1) (.inr a) e (by simp;rfl) (by simp[A7,f,g,n,y,D]) E
  ·exact CI (p:=.string d.name::(Ah d.frm++(c0++(c1++(c2++(u++(B++F))))))) _ (AU g1) (.inr a) e (by simp;rfl) (by simp[A7,f,g,n,y,D,G]) I
  ·exact CI (p:=.string d.name::(Ah d.frm++(c0++(c1++(c2++(u++(B++(F++K)))))))) (q:=[]) _ (AU g1) (.inr a) e (by simp) (by simp[A7,f,g,n,y,D,G,O]) M
 ·obtain ⟨h1,h2,h3⟩:=h.farms
  refine B9 _ (fun i (d:BL)=> [(d.area,0)]) x.farms _ h1 fun i hi=>?_
  obtain ⟨b,o,cs,g1,a,r,e,_,_,_,c,rfl,j⟩:=h3 i hi
  generalize x.farms[i]=d at*
  exact ⟨CI (p:=.string d.name::(Ah d.on++[.bool d.river])) _ (AU g1) (.inr a) e (by simp;rfl) rfl j,trivial⟩
 ·obtain ⟨h1,h2,h3⟩:=h.rots
  refine B9 _ (fun i (d:B7)=> [(d.flow,0),(d.frm,0),(d.to,0)]++DL d.turns) x.rots _ h1 fun i hi=>?_
  obtain ⟨b,o,cs,g1,a,r,e,_,_,c0,c1,c2,rfl,m,l,t,P⟩:=h3 i hi
  generalize x.rots[i]=d at*
  have f:=m.len;have g:=l.len
  refine At.append ⟨?_,?_,?_,trivial⟩ ?_
  ·exact CI (p:=.string d.name::(Ah d.on++[iV d.rank])) _ (AU g1) (.inr a) e (by simp;rfl) rfl m
  ·exact CI (p:=.string d.name::(Ah d.on++(iV d.rank::c0))) _ (AU g1) (.inr a) e (by simp;rfl) (by simp[A7,f]) l
  ·exact CI (p:=.string d.name::(Ah d.on++(iV d.rank::(c0++c1)))) _ (AU g1) (.inr a) e (by simp;rfl) (by simp[A7,f,g]) t
  ·obtain ⟨h1,h2,h3⟩:=P
   refine B9 _ (fun k (d:Bt)=> [(d.len,0)]) d.turns _ h1 fun k J=>?_
   obtain ⟨b,o,cs,g1,a,r,e,_,c,rfl,j⟩:=h3 k J
   exact ⟨CI (p:=Ah (d.turns[k]).farm) (q:=[]) _ (AU g1) (.inr a) e (by simp) rfl j,trivial⟩
 ·obtain ⟨h1,h2,h3⟩:=h.rights
  refine B9 _ (fun i (d:AG)=> [(d.flow,0),(d.frm,0),(d.to,0),(d.every,0),(d.len,0)]) x.rights _ h1 fun i hi=>?_
  obtain ⟨b,o,cs,g1,a,r,e,_,_,_,c0,c1,c2,u,B,rfl,m,l,t,z,A⟩:=h3 i hi
  generalize x.rights[i]=d at*
  have f:=m.len;have g:=l.len;have n:=t.len;have y:=z.len
  refine ⟨?_,?_,?_,?_,?_,trivial⟩
  ·exact CI (p:=iV d.kind::.string d.name::(Ah d.farm++(Ah d.reach++[iV d.rank]))) _ (AU g1) (.inr a) e (by simp;rfl) rfl m
  ·exact CI (p:=iV d.kind::.string d.name::(Ah d.farm++(Ah d.reach++(iV d.rank::c0)))) _ (AU g1) (.inr a) e (by simp;rfl) (by simp[A7,f]) l
  ·exact CI (p:=iV d.kind::.string d.name::(Ah d.farm++(Ah d.reach++(iV d.rank::(c0++c1))))) _ (AU g1) (.inr a) e (by simp;rfl) (by simp[A7,f,g]) t
  ·exact CI (p:=iV d.kind::.string d.name::(Ah d.farm++(Ah d.reach++(iV d.rank::(c0++(c1++c2)))))) _ (AU g1) (.inr a) e (by simp;rfl) (by simp[A7,f,g,n]) z
  ·exact CI (p:=iV d.kind::.string d.name::(Ah d.farm++(Ah d.reach++(iV d.rank::(c0++(c1++(c2++u))))))) (q:=[]) _ (AU g1) (.inr a) e (by simp) (by simp[A7,f,g,n,y]) A
 ·obtain ⟨h1,h2,h3⟩:=h.duties
  refine B9 _ (fun i (d:Ce)=> [(d.due,0)]) x.duties _ h1 fun i hi=>?_
  obtain ⟨b,o,cs,g1,a,r,e,_,_,_,c,rfl,j⟩:=h3 i hi
  generalize x.duties[i]=d at*
  exact ⟨CI (p:=.string d.name::(Ah d.farm++Ah d.reach)) (q:=[]) _ (AU g1) (.inr a) e (by simp) rfl j,trivial⟩
theorem JR(h:B8 N w L cs x)(k:w.rangeAt L.s 0 cs){Bs:Nat}(d:w.cell? ⟨Bs,0,none⟩=some (.pointer (some ⟨L.s,0,none⟩))):I9 L Bs w:=by
 obtain ⟨c0,c1,c2,rfl,l,g1,u⟩:=h.cells
 have r:=l.len;have m:=g1.len;have t:=u.len
 have a:=AK (p:=.string x.name::(c0++(c1++c2))) (c:=[L.lets.v,L.crops.v,L.reaches.v,L.farms.v,L.rots.v,L.rights.v,L.duties.v]) (q:=[]) (o:=0) (b:=L.s) (w:=w) (by simpa using k)
 have hl:(Value.string x.name::(c0++(c1++c2))).length=19:=by simp[r,m,t]
 rw[hl] at a
 refine ⟨d,a 0 _ rfl,a 1 _ rfl,a 2 _ rfl,a 3 _ rfl,a 4 _ rfl,a 5 _ rfl,a 6 _ rfl,fun i hi=>?_⟩
 obtain ⟨h1,h2,h3⟩:=h.rots
 obtain ⟨b,o,cs,j,y,z,n,_,_,g,e,f,rfl,e0,e1,e2,_⟩:=h3 i (by omega)
 rw[AU j]
 have:=AK (p:=.string (x.rots[i]'(by omega)).name::(Ah (x.rots[i]'(by omega)).on++(iV (x.rots[i]'(by omega)).rank::(g++(e++f))))) (c:=[(A4 L i).v]) (q:=[]) (o:=o+i*23) (b:=b) (w:=w) (by simpa using n)
 have hl:(Value.string (x.rots[i]'(by omega)).name::(Ah (x.rots[i]'(by omega)).on++(iV (x.rots[i]'(by omega)).rank::(g++(e++f))))).length=22:=by simp[A7,e0.len,e1.len,e2.len]
 rw[hl] at this
 exact this 0 _ rfl
end
structure Us where
 b:Nat
 o:Nat
 to:Int
 at_:Int
 name:ByteArray
 n:Int
def Us.v(u:Us):Array Value:=#[.agg #[.pointer (some ⟨u.b,u.o,none⟩),.int .i64 u.to,.int .i64 u.at_]]
def MJ(op:Int)(len:Nat):Bool:=decide (1<=op)&&(decide (op<=6)&&(if 3<=op then decide (len=2) else decide (len=0)))
def KL(op lt:Int):Int:=if op=2 then (if 0 < lt then 2 else 1) else 0
def O9(op lt:Int):Int:=if op=2 then (if 0 < lt then lt - 1 else 0) else 0
mutual
def Cg(w:World)(lt:Int):Ex->Nat->Nat->List Us × Bool
 |.mk op _ _ rn ri args,b,o=>if MJ op args.length then (⟨b,o+3,KL op lt,O9 op lt,rn,ri⟩::(Bw w lt args (w.cell? ⟨b,o+5,none⟩) 0).1,(Bw w lt args (w.cell? ⟨b,o+5,none⟩) 0).2) else ([],false)
def Bw(w:World)(lt:Int):List Ex->Option Value->Nat->List Us × Bool
 |[],_,_=>([],true)
 |e::r,v,i=>match v with
  |some (.slice (some ⟨b,o,none⟩) _ _)=>if (Cg w lt e b (o+i*6)).2 then ((Cg w lt e b (o+i*6)).1++(Bw w lt r v (i+1)).1,(Bw w lt r v (i+1)).2) else ((Cg w lt e b (o+i*6)).1,false)
  |_=>([],false)
end
theorem Ld{w:World}{lt:Int}{b o n c:Nat}{e:Ex}:∀(l:List Ex) (i:Nat),Bw w lt (l++[e]) (some (.slice (some ⟨b,o,none⟩) n c)) i=
  if (Bw w lt l (some (.slice (some ⟨b,o,none⟩) n c)) i).2 then ((Bw w lt l (some (.slice (some ⟨b,o,none⟩) n c)) i).1++(Cg w lt e b (o+(i+l.length)*6)).1,(Cg w lt e b (o+(i+l.length)*6)).2) else Bw w lt l (some (.slice (some ⟨b,o,none⟩) n c)) i
 |[],i=>by
  simp only[zj,Bw,yI,xR,zY]
  split
  ·rename_i h;simp[h]
  ·rename_i h;simp[h]
 |x::r,i=>by
  simp only[z7,Bw,Ld r (i+1),yE]
  rw[show i+(r.length+1)=i+1+r.length by omega]
  by_cases h1:(Cg w lt x b (o+i*6)).2=true
  ·simp only[h1,zY]
   by_cases h2:(Bw w lt r (some (.slice (some ⟨b,o,none⟩) n c)) (i+1)).2=true
   ·simp[h2]
   ·simp[h2]
  ·simp[h1]
theorem Le{w:World}{lt:Int}{b o n c:Nat}:∀(l m:List Ex) (i:Nat),(Bw w lt l (some (.slice (some ⟨b,o,none⟩) n c)) i).2=false->Bw w lt (l++m) (some (.slice (some ⟨b,o,none⟩) n c)) i=Bw w lt l (some (.slice (some ⟨b,o,none⟩) n c)) i
 |[],m,i,h=>by simp[Bw] at h
 |x::r,m,i,h=>by
  simp only[Bw,z7] at h ⊢
  by_cases h1:(Cg w lt x b (o+i*6)).2=true
  ·simp only[h1,zY] at h ⊢
   rw[Le r m (i+1) h]
  ·simp[h1]
theorem MV{w:World}{lt:Int}{b o n c:Nat}:∀(l m:List Ex) (i:Nat),∃post,(Bw w lt (l++m) (some (.slice (some ⟨b,o,none⟩) n c)) i).1=(Bw w lt l (some (.slice (some ⟨b,o,none⟩) n c)) i).1++post
 |[],m,i=>⟨_,rfl⟩
 |x::r,m,i=>by
  simp only[Bw,z7]
  by_cases h1:(Cg w lt x b (o+i*6)).2=true
  ·simp only[h1,zY]
   obtain ⟨post,a⟩:=MV r m (i+1)
   exact ⟨post,by rw[a];simp⟩
  ·simp only[h1]
   exact ⟨[],by simp⟩
mutual
def PV(w:World)(C:Addr->Prop):Ex->Nat->Nat->Prop
 |.mk op _ _ _ _ args,b,o=>∃a cap,(w.cell? ⟨b,o,none⟩=some (.int .i64 op)∧C ⟨b,o,none⟩)∧(w.cell? ⟨b,o+5,none⟩=some (.slice a args.length cap)∧C ⟨b,o+5,none⟩)∧args.length<=140737488355328∧Jh w C a 0 args
def Jh(w:World)(C:Addr->Prop)(a:Option Addr):Nat->List Ex->Prop
 |_,[]=>True
 |i,e::r=>(∃b o,a=some ⟨b,o,none⟩∧PV w C e b (o+i*6))∧Jh w C a (i+1) r
end
theorem MW{w:World}{C:Addr->Prop}{a:Option Addr}:∀ {l:List Ex} {k:Nat},Jh w C a k l->∀i (h:i < l.length),∃b o,a=some ⟨b,o,none⟩∧PV w C l[i] b (o+(k+i)*6)
 |[],_,_,i,h=>by simp at h
 |e::r,k,hr,i,h=>by
  rw[Jh] at hr
  cases i with
  |zero=>exact hr.1
  |succ i=>
   obtain ⟨b,o,h1,h2⟩:=MW hr.2 i (by simpa using h)
   exact ⟨b,o,h1,by rw[show k+(i+1)=k+1+i by omega];simpa using h2⟩
theorem PW{w:World}{lt:Int}{b o n c:Nat}{l:List Ex}{i:Nat}(h:i < l.length)(a:(Bw w lt (l.take i) (some (.slice (some ⟨b,o,none⟩) n c)) 0).2=true):
  Bw w lt (l.take (i+1)) (some (.slice (some ⟨b,o,none⟩) n c)) 0=((Bw w lt (l.take i) (some (.slice (some ⟨b,o,none⟩) n c)) 0).1++(Cg w lt l[i] b (o+i*6)).1,(Cg w lt l[i] b (o+i*6)).2):=by
 have hl:(l.take i).length=i:=by rw[yM];omega
 rw[yq h,Ld,a,yx rfl,hl,yA]
structure IG (J:Nat->(Nat->Prop)->World->Prop) (O:Nat->Prop) (B0 l By Bi k:Nat) (W:World):Prop where
 j:J k O W
 size:B0<=W.heap.size
 own:∀b,O b->b < W.heap.size
 y:O By∧W.cell? ⟨By,0,none⟩=some (.func (.yield l) #[] #[])
 i:O Bi∧W.cell? ⟨Bi,0,none⟩=some (.func (.func 82) #[] #[.pointer (some ⟨By,0,none⟩),.pointer (some ⟨Bi,0,none⟩)])
section
variable{J:Nat->NP->World->Prop}{Jx:NP->World->Prop}{Jp:List PanicEntry->NP->World->Prop}{O:NP}{B0 l By Bi k k':Nat}{W W':World}
theorem IG.below(d:Dp J)(h:IG J O B0 l By Bi k W)(hb:Below W.heap.size W W'):IG J O B0 l By Bi k W':=
 ⟨d k O W O W' h.j hb.size hb.os hb.tape hb.output (fun b _ c=>hb.block b c) (fun _=>.inl),yr h.size hb.size,fun b a=>yp (h.own b a) hb.size,
  ⟨h.y.1,(hb.cell (p:=⟨By,0,none⟩) (h.own _ h.y.1)).trans h.y.2⟩,⟨h.i.1,(hb.cell (p:=⟨Bi,0,none⟩) (h.own _ h.i.1)).trans h.i.2⟩⟩
theorem IG.same(h:IG J O B0 l By Bi k W)(c:J k' O W')(hs:Bv O W W'):IG J O B0 l By Bi k' W':=
 ⟨c,yr h.size hs.1,fun b a=>yp (h.own b a) hs.1,⟨h.y.1,D4 hs h.y.1 h.y.2⟩,⟨h.i.1,D4 hs h.i.1 h.i.2⟩⟩
theorem IG.sameBelow(h:IG J O B0 l By Bi k W)(hb:Below W.heap.size W W'):Bv O W W':=⟨hb.size,fun b a=>hb.block b (h.own b a)⟩
def MX(J:Nat->NP->World->Prop)(Jx:NP->World->Prop)(Jp:List PanicEntry->NP->World->Prop)(O:NP)(k:Nat)(ok:Bool)(W:World)(e:Ending)(W':World):Prop:=
 (∃r:Bool,e=.returned (.bool r)∧Bv O W W'∧((r=true∧ok=true∧J k O W')∨(r=false∧Jx O W')))∨∃a,e=.panicked a∧Jp a O W'∧Bv O W W'
theorem MX.from(hs:Bv O W W'){e:Ending}{a:World}{ok:Bool}(h:MX J Jx Jp O k ok W' e a):MX J Jx Jp O k ok W e a:=by
 rcases h with ⟨r,h1,h2,h3⟩|h
 ·exact .inl ⟨r,h1,hs.trans h2,h3⟩
 ·obtain ⟨b,h1,h2,h3⟩:=h
  exact .inr ⟨b,h1,h2,hs.trans h3⟩
end
end Go.Proofs.Ytghepahgkcigpaa
namespace Go.Proofs.Ytghepahgkcigpaa
open Go.RowKit Go.Maps Go.ChangeMaps Go.WideMaps Go.MapKept
open Go.WideElems (Fit rd rg pl rd_val elemAt)
theorem Nd:Keyed Try.prog 9:=string_keyed qQ
theorem T5(w:World):(zeroValue 3).run Try.prog w=.ok (.int .i64 0) w:=by kernel_rfl
def CO:LB->ByteArray->Option Nat
 |[],_=>none
 |x::r,s=>if x=s then some 0 else (CO r s).map (·+1)
theorem Gm{l:LB}{s:ByteArray}(h:s∉l):CO l s=none:=by
 induction l with
 |nil=>rfl
 |cons x r ih=>
  rw[yJ,not_or] at h
  rw[CO,yu (fun e=>h.1 e.symm),ih h.2];rfl
theorem IL{l:LB}{s:ByteArray}(h:s∈l):∃i,CO l s=some i∧∃h:i < l.length,l[i]=s:=by
 induction l with
 |nil=>simp at h
 |cons x r ih=>
  rw[CO]
  by_cases a:x=s
  ·rw[yx a]
   exact ⟨0,rfl,by simp,by simpa using a⟩
  ·rw[yu a]
   obtain ⟨i,h1,h2,h3⟩:=ih ((yJ.1 h).resolve_left (fun e=>a e.symm))
   exact ⟨i+1,by rw[h1];rfl,by simpa using h2,by simpa using h3⟩
theorem Oz{l:LB}{x:ByteArray}(h:x∉l)(s:ByteArray):CO (l++[x]) s=if s=x then some l.length else CO l s:=by
 induction l with
 |nil=>
  simp only[zj,CO,yI]
  by_cases hs:s=x
  ·rw[yx hs,yx hs.symm]
  ·rw[yu hs,yu (fun e=>hs e.symm)];rfl
 |cons y r ih=>
  rw[yJ,not_or] at h
  rw[z7,CO,CO,ih h.2]
  by_cases a:y=s
  ·rw[yx a,yx a]
   by_cases hs:s=x
   ·exact absurd (hs.symm.trans a.symm) h.1
   ·rw[yu hs]
  ·rw[yu a,yu a]
   by_cases hs:s=x
   ·rw[yx hs,yx hs];simp
   ·rw[yu hs,yu hs]
def Cb(w:World)(m:Nat)(b:LB):Prop:=
 ∃es a,w.heap[m]?=some (.map es a)∧Fit (H:=Unit) Try.prog 9 (plainElem Try.prog 3) es a∧es.size=b.length∧
  ∀s:ByteArray,s.size<=maxLen->∀c:DataW Unit,(DataW.map ((es.toList.map (rg Try.prog 9 (plainElem Try.prog 3))).foldr DataW.insert [])).atKey (.string s.data.toList) c=(match CO b s with|some i=>.lit (.int .i64 (i:Int))|none=>c)
theorem K6(w:World):Cb (w.alloc (.map #[] 0)) w.heap.size []:=
 ⟨#[],0,(MapKept.heap_alloc w _).1,⟨by simp,stamped_empty 0,by simp⟩,rfl,fun s _ a=>rfl⟩
theorem Cb.block{w w':World}{m:Nat}{b:LB}(h:Cb w m b)(hb:w'.heap[m]?=w.heap[m]?):Cb w' m b:=by
 obtain ⟨es,a,h1,h2⟩:=h
 exact ⟨es,a,hb.trans h1,h2⟩
theorem Cb.lt{w:World}{m:Nat}{a:LB}(h:Cb w m a):m < w.heap.size:=by
 obtain ⟨es,b,h1,h2⟩:=h
 exact (yf.1 h1).1
theorem Cb.size{w:World}{m:Nat}{b:LB}(h:Cb w m b):∃es a,w.heap[m]?=some (.map es a)∧es.size=b.length:=by
 obtain ⟨es,a,h1,_,h2,_⟩:=h
 exact ⟨es,a,h1,h2⟩
def Hv(a:LB)(s:ByteArray):Value:=
 match CO a s with
 |some i=>.tuple #[.int .i64 (i:Int),.bool true]
 |none=>.tuple #[.int .i64 0,.bool false]
theorem Cb.look{w:World}{m:Nat}{c:LB}(h:Cb w m c)(s:ByteArray)(hs:s.size<=maxLen):
  (Instr.lookup 90 (.map (some m)) (.string s) true).run Try.prog w=.ok (Hv c s) w:=by
 obtain ⟨es,j,hb,F,_,f⟩:=h
 have d:=keyOf_string_mk (P:=Try.prog) qQ hs
 rcases Maps.fit_look (t:=90) true Nd qR (T5 w) hb F d with ⟨b,_,l⟩|⟨e0,y,_,_,b,o,n,_⟩
 ·rw[b]
  have h1:=l .nil
  rw[f s hs] at h1
  unfold Hv
  cases g:CO c s with
  |none=>rfl
  |some i=>rw[g] at h1;cases h1
 ·rw[b]
  obtain ⟨a,k,e,_⟩:=plainElem_int_inv (H:=Unit) qw o
  have h1:=n .nil
  rw[f s hs] at h1
  unfold Hv
  cases g:CO c s with
  |none=>rw[g,e] at h1;cases h1
  |some i=>
   rw[g,e] at h1
   simp only[DataW.lit.injEq,Lit.int.injEq,qb] at h1
   rw[k,<-h1];rfl
theorem K8{H:Type}(p:Lit × DataW H):∀l:List (Lit × DataW H),p∈l.foldr DataW.insert []->p∈l
 |[],h=>h
 |x::r,h=>by
  rw[List.foldr_cons,mem_insert_iff] at h
  exact h.elim (fun e=>by rw[e];exact List.mem_cons_self) (fun h=>List.mem_cons_of_mem _ (K8 p r h))
theorem Cb.put{w:World}{m:Nat}{a:LB}(h:Cb w m a)(s:ByteArray)(hs:s.size<=maxLen)(r:s∉a)(u:a.length < 1000000):
  ∃w',(Instr.mapUpdate 90 (.map (some m)) (.string s) (.int .i64 (a.length:Int))).run Try.prog w=.ok () w'∧Cb w' m (a++[s])∧w.grownBy w' (some m):=by
 obtain ⟨es,o,hb,F,n,k⟩:=h
 have b:=keyOf_string_mk (P:=Try.prog) qQ hs
 have A:plainElem (H:=Unit) Try.prog 3 (iV (a.length:Int))=some (.lit (.int .i64 (a.length:Int)),[]):=plainElem_int qw (by simp only[Lit.wf,yt,yW];exact ⟨by have:IntKind.min .i64= -9223372036854775808:=rfl;omega,by have:IntKind.max .i64=9223372036854775807:=rfl;omega⟩)
 obtain ⟨g,c,j,F',d,_⟩:=Maps.fit_store (R':=plainElem Try.prog 3) (t:=90) Nd qR hb F (by unfold maxLen;omega) (fun _ _ _ _ u=>u) b A
 have q:∀x∈es.toList,x.key≠.string s:=by
  rcases Maps.fit_look (t:=90) true Nd qR (T5 w) hb F b with ⟨_,h,_⟩|⟨e0,y,_,_,_,_,v,_⟩
  ·exact h
  ·have h1:=v .nil
   have h2:=v (.lit (.bool true))
   rw[k s hs,Gm r] at h1 h2
   rw[<-h1] at h2
   cases h2
 refine ⟨_,j,⟨g,c,heap_setBlock_same hb _,F',?_,?_⟩,⟨rfl,rfl,rfl,by simp[setBlock],fun i _ hi=>heap_setBlock_other hb _ (fun e=>hi (by rw[e]))⟩⟩
 ·have e1:g.size=((g.toList.map (rg Try.prog 9 (plainElem (H:=Unit) Try.prog 3))).foldr DataW.insert []).length:=by rw[length_sorted];simp
  rw[e1,d]
  unfold putKey
  rw[length_insert]
  have e2:=filter_all Nd F b q
  have z:(((es.toList.map (rg Try.prog 9 (plainElem (H:=Unit) Try.prog 3))).foldr DataW.insert []).filter (notKey (.string s.data.toList)))=((es.toList.map (rg Try.prog 9 (plainElem (H:=Unit) Try.prog 3))).foldr DataW.insert []):=by
   rw[List.filter_eq_self] at e2 ⊢
   exact fun p l=>e2 p (K8 p _ l)
  rw[z,length_sorted]
  simp[n]
 ·intro t B C
  rw[d]
  have l:(DataW.map (putKey (.string s.data.toList) (.lit (.int .i64 (a.length:Int))) ((es.toList.map (rg Try.prog 9 (plainElem (H:=Unit) Try.prog 3))).foldr DataW.insert [])))=(DataW.map ((es.toList.map (rg Try.prog 9 (plainElem (H:=Unit) Try.prog 3))).foldr DataW.insert [])).put (.string s.data.toList) (.lit (.int .i64 (a.length:Int))):=rfl
  rw[l,Oz r]
  by_cases f:t=s
  ·subst f
   rw[yx rfl,atKey_put_same ⟨_,rfl⟩ (Nd.key b)]
  ·rw[yu f,atKey_put_other (fun e=>f (by simp at e;exact ByteArray.ext (by simpa using e))),k t B]
end Go.Proofs.Ytghepahgkcigpaa
namespace Go.Proofs.Ytghepahgkcigpaa
open Go Go.RowKit
section
variable{P:Program}{ops:Array Oper}{Q:QT}{md:Region.Mode}{T:World->Prop}{k:Nat}
def DO(P:Program)(md:Region.Mode)(ops:Array Oper)(Q:QT)(T:World->Prop)(k:Nat):Nat->Array Bool->Act->World->Prop
 |0,listed,a,w=>Region.ready md ops listed=[]∧Q .normal a w
 |fuel+1,listed,a,w=>
  (Region.ready md ops listed=[]->Q .normal a w)∧
  ∀i∈Region.ready md ops listed,wpOp P ops Q i (fun b w'=>((listed.setIfInBounds i true).getD k true=false->T w')∧DO P md ops Q T k fuel (listed.setIfInBounds i true) b w') a w
theorem Ke:∀(fuel:Nat) (b:Array Bool) (a:Act) (w:World),DO P md ops Q T k fuel b a w->wpAny P md ops Q fuel b a w
 |0,_,_,_,h=>h
 |fuel+1,_,_,_,h=>⟨h.1,fun i hi=>wpOp_mono (fun c w' d=>Ke fuel _ c w' d.2) (h.2 i hi)⟩
theorem Me{i:Nat}{s:Oper}{v:Value}(hi:ops[i]?=some s)(q:∀(j:Nat) (o:Oper) cs b,ops[j]?=some o->o.op≠.select cs b)
 (R:∀c a w,Q (.panic c) (a.put s.dst v) w->Q (.panic c) a w)(u:k≠i)(F:∀ok,ops[k]?=some ok->∃e∈ok.after,Region.binds md e=true∧e.on=i):
  ∀(fuel:Nat) (d:Array Bool) (a:Act) (w:World),
   (∀j n,ops[j]?=some n->j≠i->d.getD j true=false->(∀e∈n.after,Region.binds md e=true->e.on≠i)->s.apart ops n=true)->
   i∈Region.ready md ops d->YieldsIf P ops T s v a->d.getD k true=false->T w->
   DO P md ops Q T k fuel (d.setIfInBounds i true) (a.put s.dst v) w->DO P md ops Q T k (fuel+1) d a w:=by
 intro fuel
 induction fuel with
 |zero=>
  intro d a w _ t E x y H
  refine ⟨fun h=>(by rw[h] at t;cases t),fun j D=>?_⟩
  by_cases f:j=i
  ·subst f;exact E.wpOp hi y ⟨fun _=>y,H⟩
  ·have:=ready_mono D f
   rw[H.1] at this
   cases this
 |succ fuel ih=>
  intro d a w g t E x y H
  refine ⟨fun h=>(by rw[h] at t;cases t),fun j D=>?_⟩
  by_cases f:j=i
  ·subst f;exact E.wpOp hi y ⟨fun _=>y,H⟩
  ·have h1:=H.2 j (ready_mono D f)
   obtain ⟨p,n,m,z⟩:=xi.1 D
   have r:∀e∈n.after,Region.binds md e=true->e.on≠i:=fun e K hb M=>by
    have h1:=z e K hb
    have h0:=(xi.1 t).1
    rw[M] at h1
    rcases zO i d.size with G|G
    ·simp[G] at h0 h1;rw[h0] at h1;cases h1
    ·simp[xb G] at h1
   have B:k≠j:=fun e=>by
    subst e
    obtain ⟨e,K,hb,J⟩:=F n m
    exact r e K hb J
   have h2:=wpOp_putIf m (g j n m f p r) (fun cs b=>q i s cs b hi) (fun cs b=>q j n cs b m) R E h1
   have l:∀k ok,ops[k]?=some ok->k≠i->(d.setIfInBounds j true).getD k true=false->
     (∀e∈ok.after,Region.binds md e=true->e.on≠i)->s.apart ops ok=true:=fun k ok x u A L=>by
    refine g k ok x u ?_ L
    by_cases C:j=k
    ·subst C;exact p
    ·rw[zU true C] at A;exact A
   have I:(d.setIfInBounds j true).getD k true=false:=by rw[zU true (xj B)];exact x
   refine wpOp_mono (fun O w' h3=>?_) h2
   have N:T w':=h3.2.1 (by rw[zU true (xj B),zU true (xj u)];exact x)
   refine ⟨fun _=>N,ih (d.setIfInBounds j true) O w' l (ready_mono t (xj f)) h3.1 I N ?_⟩
   rw[Array.setIfInBounds_comm _ _ f]
   exact h3.2.2
theorem KR{i:Nat}{q:Oper}{v:Value}(hi:ops[i]?=some q)(p:∀(j:Nat) (o:Oper) cs b,ops[j]?=some o->o.op≠.select cs b)
 (M:∀c a w,Q (.panic c) (a.put q.dst v) w->Q (.panic c) a w)(g:k≠i):
  ∀(fuel:Nat) (d:Array Bool) (a:Act) (w:World),
   (∀j s,ops[j]?=some s->j≠i->d.getD j true=false->(∀e∈s.after,Region.binds md e=true->e.on≠i)->q.apart ops s=true)->
   i∈Region.ready md ops d->YieldsIf P ops (fun _=>True) q v a->(d.getD k true=false->T w)->
   DO P md ops Q T k fuel (d.setIfInBounds i true) (a.put q.dst v) w->DO P md ops Q T k (fuel+1) d a w:=by
 intro fuel
 induction fuel with
 |zero=>
  intro d a w _ r D E H
  refine ⟨fun h=>(by rw[h] at r;cases r),fun j C=>?_⟩
  by_cases f:j=i
  ·subst f;exact D.wpOp hi trivial ⟨fun h=>E (by rw[zU true (xj g)] at h;exact h),H⟩
  ·have:=ready_mono C f
   rw[H.1] at this
   cases this
 |succ fuel ih=>
  intro d a w l r D E H
  refine ⟨fun h=>(by rw[h] at r;cases r),fun j C=>?_⟩
  by_cases f:j=i
  ·subst f;exact D.wpOp hi trivial ⟨fun h=>E (by rw[zU true (xj g)] at h;exact h),H⟩
  ·have h1:=H.2 j (ready_mono C f)
   obtain ⟨n,s,t,x⟩:=xi.1 C
   have A:∀e∈s.after,Region.binds md e=true->e.on≠i:=fun e L hb G=>by
    have h1:=x e L hb
    have h0:=(xi.1 r).1
    rw[G] at h1
    rcases zO i d.size with u|u
    ·simp[u] at h0 h1;rw[h0] at h1;cases h1
    ·simp[xb u] at h1
   have h2:=wpOp_putIf t (l j s t f n A) (fun cs b=>p i q cs b hi) (fun cs b=>p j s cs b t) M D h1
   have m:∀k ok,ops[k]?=some ok->k≠i->(d.setIfInBounds j true).getD k true=false->
     (∀e∈ok.after,Region.binds md e=true->e.on≠i)->q.apart ops ok=true:=fun k ok J g y F=>by
    refine l k ok J g ?_ F
    by_cases B:j=k
    ·subst B;exact n
    ·rw[zU true B] at y;exact y
   refine wpOp_mono (fun K w' h3=>?_) h2
   have I:(d.setIfInBounds j true).getD k true=false->T w':=fun h=>h3.2.1 (by
    by_cases z:k=j
    ·subst z
     rcases zO k d.size with u|u
     ·simp[u] at h
     ·simp at h
    ·rw[zU true (xj z)] at h ⊢
     rw[zU true (xj g)];exact h)
   refine ⟨I,ih (d.setIfInBounds j true) K w' m (ready_mono r (xj f)) h3.1 I ?_⟩
   rw[Array.setIfInBounds_comm _ _ f]
   exact h3.2.2
theorem A0{i:Nat}{d:Oper}{v:Value}{fuel:Nat}{b:Array Bool}{a:Act}{w:World}(hi:ops[i]?=some d)
 (hs:Region.noSelect ops=true)(e:Region.free md ops b i=true)(l:(Region.ready md ops b).contains i=true)
 (m:∀c a w,Q (.panic c) (a.put d.dst v) w->Q (.panic c) a w)(f:(k !=i)=true)(j:YieldsIf P ops (fun _=>True) d v a)(g:b.getD k true=false->T w)
 (h:DO P md ops Q T k fuel (b.setIfInBounds i true) (a.put d.dst v) w):DO P md ops Q T k (fuel+1) b a w:=
 KR hi (Region.noSelect_spec hs) m (by simpa using f) fuel b a w (Region.free_spec hi e) (by simpa using l) j g h
def Rc(md:Region.Mode)(ops:Array Oper)(k i:Nat):Bool:=match ops[k]? with
 |none=>false
 |some o=>o.after.any fun e=>Region.binds md e&&e.on==i
theorem Ae{i:Nat}{d:Oper}{v:Value}{fuel:Nat}{b:Array Bool}{a:Act}{w:World}(hi:ops[i]?=some d)
 (hs:Region.noSelect ops=true)(m:Region.free md ops b i=true)(j:(Region.ready md ops b).contains i=true)
 (p:∀c a w,Q (.panic c) (a.put d.dst v) w->Q (.panic c) a w)(f:(k !=i&&!b.getD k true&&Rc md ops k i)=true)(l:YieldsIf P ops T d v a)(n:T w)
 (h:DO P md ops Q T k fuel (b.setIfInBounds i true) (a.put d.dst v) w):DO P md ops Q T k (fuel+1) b a w:=by
 simp only[yt,qe,Bool.not_eq_true'] at f
 refine Me hi (Region.noSelect_spec hs) p f.1.1 (fun ok g=>?_) fuel b a w (Region.free_spec hi m) (by simpa using j) l f.1.2 n h
 have:=f.2
 unfold Rc at this
 rw[g] at this
 simp only[xM,yt,beq_iff_eq] at this
 obtain ⟨e,o,h1,h2⟩:=this
 exact ⟨e,o,h1,h2⟩
theorem A3{i:Nat}{o:Oper}{fuel:Nat}{b:Array Bool}{a:Act}{w:World}(d:Region.ready md ops b=[i])(m:ops[i]?=some o)
 (h:∀K:Act->World->Prop,Hid (∀a w,((b.setIfInBounds i true).getD k true=false->T w)->DO P md ops Q T k fuel (b.setIfInBounds i true) a w->K a w)->if Region.wanted o (yielded ops a.tmps)=true then Oper.wp P o a w K Q else K (a.put o.dst undef) w):DO P md ops Q T k (fuel+1) b a w:=by
 refine ⟨fun h0=>(by rw[d] at h0;cases h0),fun j c=>?_⟩
 rw[d] at c
 obtain rfl:=zt.1 c
 exact wpOp_step m (fun f g=>h f (yb fun a w l e=>g a w ⟨l,e⟩))
theorem BS{fuel:Nat}{b:Array Bool}{a:Act}{w:World}(c:Region.ready md ops b=[])(h:Q .normal a w):DO P md ops Q T k fuel b a w:=by
 cases fuel with
 |zero=>exact ⟨c,h⟩
 |succ n=>exact ⟨fun _=>h,by rw[c];simp⟩
theorem BT{id:Nat}{a:Act}{w:World}(b:P.follows .mixedOrders=true)(T:World->Prop)(k:Nat)
 (h:DO P .any ops Q T k ops.size (Array.replicate ops.size false) a w.drew):(Code.region id ops true).wp P Q a w:=
 wp_region_any b (Ke _ _ _ _ h)
end
end Go.Proofs.Ytghepahgkcigpaa
namespace Go.Proofs.Ytghepahgkcigpaa
open Go.RowKit
section
variable{P:Program}{ops:Array Oper}{rest:List Oper}{o:Oper}{a:Act}{w:World}{Q:QT}
theorem F8(b:o.guard=none)(ty:TypeId)(x:Operand)(d:o.op=.box ty x)(cs:Array Value)(e:a.eval x=.agg cs)
 (h:wpList P ops Q rest (a.put o.dst (.pointer (some ⟨w.heap.size,0,none⟩))) (w.alloc (.cells cs ty))):wpList P ops Q (o::rest) a w:=
 yF b fun K c=>by
  unfold Oper.wp execOp
  simp only[d,e,Instr.box,newVar,newRow,Value.cells,Sem.run_bind,run_newObj_alloc,Sem.run_pure,Result.andThen_ok]
  exact c _ _ h
theorem BN(f:o.guard=none)(t e:TypeId)(x:Operand)(p:o.op=.buildSlice t 1 #[(0,x)])(cs:LV)(l:a.eval x=.agg cs.toArray)
 (n:Nat)(m:P.underlying t=some (.slice e))(hi:((P.info? e).bind fun i=>i.zero.map fun z=>(i.size,z.cells.size))=some (n,n))(j:cs.length=n)(c:0 < n)(d:n<=1000)
 (h:wpList P ops Q rest (a.put o.dst (.slice (some ⟨w.heap.size,0,none⟩) 1 1)) (w.alloc (.cells cs.toArray e))):wpList P ops Q (o::rest) a w:=by
 cases b:P.info? e with
 |none=>simp[b] at hi
 |some ie=>
  cases g:ie.zero with
  |none=>simp[b,g] at hi
  |some z=>
   simp only[b,g,xE,xL,yV,zq] at hi
   obtain ⟨h1,h2⟩:=hi
   refine wpList_buildSlice f t e 1 _ p _ ie z m b g (by rw[h1];omega) (by rw[h1];omega) ?_ h
   have hs:((Array.range (1*ie.size)).map (z.cells[· % z.cells.size]!)).size=1*n:=by simp[h1]
   rw[h1] at hs ⊢
   generalize (Array.range (1*n)).map (z.cells[· % z.cells.size]!)=k at hs ⊢
   have:=Great.fill_whole (s:=n) c [.agg cs.toArray] k (by simp[Value.cells,j]) (by rw[hs];rfl)
   simp only[List.zipIdx_cons,List.zipIdx_nil,zT,xx,zp,zL,zn,Value.cells] at this
   simpa[l] using this
end
theorem KV{v:Value}(a:v.cells=#[v])(ty:TypeId)(p:Addr):storeVar ty p v=storeVar ty p (.agg #[v]):=by
 unfold storeVar
 rw[a]
 rfl
theorem GB{P:Program}{ops:Array Oper}{rest:List Oper}{op:Oper}{a:Act}{w:World}{Q:QT}(c:op.guard=none)(ty:TypeId)(x y:Operand)(j:op.op=.store ty x y)
 (b o:Nat)(v:Value)(f:a.eval x=.pointer (some ⟨b,o,none⟩))(g:a.eval y=v)(d:v.cells=#[v])
 (i:w.there b o 1)(hi:(P.info? ty).map (·.size)=some 1)(h1:v.oneCell'=true)
 (h:wpList P ops Q rest (a.put op.dst undef) (w.setCells b o [v])):wpList P ops Q (op::rest) a w:=
 yF c fun K e=>by
  unfold Oper.wp execOp
  simp only[j,f,g,Instr.storeAt,Instr.sureAddr,Sem.run_bind,Sem.run_pure,Result.andThen_ok,KV d,run_storeVar_mid w b o ty #[v] i hi (by simpa using h1)]
  exact e _ _ h
end Go.Proofs.Ytghepahgkcigpaa
namespace Go.Proofs.Ytghepahgkcigpaa
open Go
structure IS (ops:Array Oper) (a₀:Act) (Ext:Array Bool->Array Value->World->Prop) (Pp:Nat->Value->World->Prop) (listed:Array Bool) (a:Act) (w:World):Prop where
 size:listed.size=ops.size
 down:∀m,listed.getD m false=true->∀o,ops[m]?=some o->∀e∈o.after,Region.binds .any e=true->listed.getD e.on false=true
 ext:Ext listed a.tmps w
 defers:a.defers=a₀.defers
 tmps:a.tmps.size=a₀.tmps.size
 done:∀i,listed.getD i false=true->∀o t,ops[i]?=some o->o.dst=some t->Pp i (a.tmps.getD t undef) w
 free:∀k,(∀i,listed.getD i false=true->∀o,ops[i]?=some o->o.dst≠some k)->a.tmps.getD k undef=a₀.tmps.getD k undef
theorem AQ{a:Act}{t:Nat}(v:Value)(h:t < a.tmps.size):(a.put (some t) v).tmps.getD t undef=v:=by
 simp[Act.put,h]
theorem Cq{a:Act}{t k:Nat}(v:Value)(h:t≠k):(a.put (some t) v).tmps.getD k undef=a.tmps.getD k undef:=by
 simp[Act.put,h]
def FK(ops:Array Oper):Bool:=(ops.toList.filterMap (·.dst)).Nodup&&(List.range ops.size).all fun i=>(ops[i]?).all fun o=>o.after.all fun e=>decide (e.on < i)||!Region.binds .any e
def GQ(n:Nat)(ops:Array Oper):Bool:=ops.all fun o=>o.dst.all fun t=>decide (t < n)
theorem Py:∀ {l:List Oper},(l.filterMap (·.dst)).Nodup->∀ {i j:Nat} {d c:Oper} {t:Tmp},l[i]?=some d->l[j]?=some c->d.dst=some t->c.dst=some t->i=j
 |[],_,i,_,_,_,_,h,_,_,_=>by simp at h
 |x::r,hn,i,j,d,c,t,hi,b,di,dj=>by
  have g:(r.filterMap (·.dst)).Nodup:=by
   rw[List.filterMap_cons] at hn
   split at hn
   ·exact hn
   ·exact (List.nodup_cons.1 hn).2
  have a:∀ {k:Nat} {o:Oper},r[k]?=some o->o.dst=some t->x.dst≠some t:=by
   intro k o e hd f
   rw[List.filterMap_cons,f] at hn
   exact (List.nodup_cons.1 hn).1 (List.mem_filterMap.2 ⟨o,xq e,hd⟩)
  cases i with
  |zero=>
   cases j with
   |zero=>rfl
   |succ j=>
    simp only[xI,yV] at hi
    subst hi
    exact (a (by simpa using b) dj di).elim
  |succ i=>
   cases j with
   |zero=>
    simp only[xI,yV] at b
    subst b
    exact (a (by simpa using hi) di dj).elim
   |succ j=>exact yH (·+1) (Py g (by simpa using hi) (by simpa using b) di dj)
variable{P:Program}{ops:Array Oper}{Q:QT}
theorem Mj{l:Array Bool}{i:Nat}(h:l.getD i false=true):i < l.size:=by
 rcases zO i l.size with a|a
 ·exact a
 ·simp[xb a] at h
def Kr(ops:Array Oper):Nat->Nat->Nat->Bool
 |0,_,_=>false
 |f+1,j,i=>(ops[j]?).any fun o=>o.after.any fun e=>Region.binds .any e&&(e.on==i||Kr ops f e.on i)
theorem A1{a:Array Bool}(hd:∀m,a.getD m false=true->∀o,ops[m]?=some o->∀e∈o.after,Region.binds .any e=true->a.getD e.on false=true):
  ∀(f j i:Nat),Kr ops f j i=true->a.getD j false=true->a.getD i false=true
 |0,_,_,h,_=>by cases h
 |f+1,j,i,h,hj=>by
  rw[Kr] at h
  cases c:ops[j]? with
  |none=>rw[c] at h;cases h
  |some o=>
   rw[c,Option.any_some,xM] at h
   obtain ⟨e,d,b⟩:=h
   simp only[yt,xY,beq_iff_eq] at b
   have hl:=hd j hj o c e d b.1
   rcases b.2 with h2|h2
   ·rw[<-h2];exact hl
   ·exact A1 hd f e.on i h2 hl
theorem IS.next{H:Act}{x:Array Bool->Array Value->World->Prop}{D:Nat->Value->World->Prop}{S:Nat->World->World->Prop}(q:FK ops=true)(p:GQ H.tmps.size ops=true)
 (L:∀i j v w w',j≠i->(∀f,Kr ops f j i=false)->S i w w'->D j v w->D j v w'){b:Array Bool}{a:Act}{w:World}(h:IS ops H x D b a w){i:Nat}{o:Oper}(hi:i∈Region.ready .any ops b)(g:ops[i]?=some o)
 {v:Value}{w':World}(X:x (b.setIfInBounds i true) (a.put o.dst v).tmps w')(M:S i w w')(T:D i v w'):IS ops H x D (b.setIfInBounds i true) (a.put o.dst v) w':=by
 obtain ⟨r,y,N,C⟩:=xi.1 hi
 obtain rfl:y=o:=yh (N.symm.trans g)
 have E:i < b.size:=by rw[h.size];exact (yf.1 g).1
 have l:∀ {m:Nat},(b.setIfInBounds i true).getD m false=true->m=i∨b.getD m false=true:=by
  intro m d
  by_cases e:i=m
  ·exact .inl e.symm
  ·rw[zU false e] at d;exact .inr d
 unfold FK at q
 rw[yt,yW] at q
 have F:∀ {i j:Nat} {P R:Oper} {t:Tmp},ops[i]?=some P->ops[j]?=some R->P.dst=some t->R.dst=some t->i=j:=fun hi U W V=>
  Py q.1 (by simpa using hi) (by simpa using U) W V
 have J:∀ {i:Nat} {o:Oper} {t:Tmp},ops[i]?=some o->o.dst=some t->t < H.tmps.size:=by
  intro i o t g hd
  unfold GQ at p
  rw[zo] at p
  have:=p o (xk g)
  rw[hd] at this
  simpa using this
 refine ⟨by simp[h.size],?_,X,?_,?_,?_,?_⟩
 ·intro m d z c e B hb
  rcases l d with rfl|d
  ·obtain rfl:=yh (c.symm.trans g)
   exact getD_set_true (C e B hb)
  ·exact getD_set_true (h.down m d z c e B hb)
 ·rw[<-h.defers];unfold Act.put;cases y.dst<;>rfl
 ·rw[<-h.tmps];unfold Act.put;cases y.dst<;>simp
 ·intro m d z t c hd
  by_cases e:m=i
  ·subst e
   obtain rfl:=yh (c.symm.trans g)
   rw[hd,AQ _ (by rw[h.tmps];exact J g hd)]
   exact T
  ·have A:=(l d).resolve_left e
   have I:∀f,Kr ops f m i=false:=by
    intro f
    rw[yi]
    intro hb
    have G:=A1 h.down f m i hb A
    simp[E] at r G
    rw[G] at r;cases r
   have n:=L _ _ _ _ _ e I M (h.done m A z t c hd)
   cases s:y.dst with
   |none=>exact n
   |some u=>
    rw[Cq _ (fun O=>e (F c g hd (by rw[s,O])))]
    exact n
 ·intro k Q
  have K:=h.free k (fun m d z c=>Q m (getD_set_true d) z c)
  rw[<-K]
  cases s:y.dst with
  |none=>rfl
  |some u=>
   refine Cq _ (fun O=>?_)
   refine Q i ?_ y g (by rw[s,O])
   simp[E]
theorem Ks(c:FK ops=true){a:Array Bool}(hs:a.size=ops.size)(h:Region.ready .any ops a=[]):∀i,i < ops.size->a.getD i false=true:=by
 intro i
 induction i using Nat.strongRecOn with
 |ind i ih=>
  intro hi
  by_cases hl:a.getD i false=true
  ·exact hl
  ·exfalso
   have d:a.getD i true=false:=by
    have:i < a.size:=by omega
    simp[this] at hl ⊢
    exact hl
   have b:i∈Region.ready .any ops a:=by
    refine xi.2 ⟨d,ops[i],by simp[hi],fun e j f=>?_⟩
    have g:e.on < i:=by
     unfold FK at c
     rw[yt,yL] at c
     have h1:=c.2 i (yZ.2 hi)
     simp only[Array.getElem?_eq_getElem hi,Option.all_some,zo] at h1
     have h2:=h1 e j
     rw[f] at h2
     simpa using h2
    exact ih e.on g (by omega)
   rw[h] at b
   cases b
theorem Qh{A:Act}{m:Array Bool->Array Value->World->Prop}{u:Nat->Value->World->Prop}{G:Nat->World->World->Prop}(y:FK ops=true)(C:GQ A.tmps.size ops=true)
 (E:∀i j v w w',j≠i->(∀f,Kr ops f j i=false)->G i w w'->u j v w->u j v w')
 (s:∀i b a w,IS ops A m u b a w->i∈Region.ready .any ops b->∀o,ops[i]?=some o->wpOp P ops Q i (fun H w'=>∃v,H=a.put o.dst v∧m (b.setIfInBounds i true) (a.put o.dst v).tmps w'∧G i w w'∧u i v w') a w)
 (q:∀b a w,(∀i,i < ops.size->b.getD i false=true)->IS ops A m u b a w->Q .normal a w):
  ∀(fuel:Nat) (b:Array Bool) (a:Act) (w:World),(∀i,i < ops.size->b.getD i false=true)∨((List.range ops.size).filter fun i=>!b.getD i false).length<=fuel->IS ops A m u b a w->wpAny P .any ops Q fuel b a w:=by
 intro fuel
 induction fuel with
 |zero=>
  intro b a w t hM
  have n:∀i,i < ops.size->b.getD i false=true:=by
   rcases t with t|t
   ·exact t
   ·intro i hi
    have h0:=z6.1 (Nat.le_zero.1 t)
    have:=List.filter_eq_nil_iff.1 h0 i (yZ.2 hi)
    simpa using this
  refine ⟨?_,q _ _ _ n hM⟩
  cases B:Region.ready .any ops b with
  |nil=>rfl
  |cons i r=>
   exfalso
   have hi:i∈Region.ready .any ops b:=by rw[B];simp
   obtain ⟨d,o,z,_⟩:=xi.1 hi
   have c:=(yf.1 z).1
   have:=n i c
   have k:i < b.size:=by rw[hM.size];exact c
   simp[k] at d this
   rw[this] at d;cases d
 |succ fuel ih=>
  intro b a w t hM
  refine ⟨fun B=>q _ _ _ (Ks y hM.size B) hM,fun i hi=>?_⟩
  obtain ⟨d,o,z,_⟩:=xi.1 hi
  have c:=(yf.1 z).1
  have k:i < b.size:=by rw[hM.size];exact c
  have g:b.getD i false=false:=by simp[k] at d ⊢;exact d
  refine wpOp_mono (fun H w' L=>?_) (s i b a w hM hi o z)
  obtain ⟨v,rfl,K,D,I⟩:=L
  refine ih _ _ _ (.inr ?_) (hM.next y C E hi z K D I)
  have J:=t.resolve_left (fun h=>by rw[h i c] at g;cases g)
  have x:((List.range ops.size).filter fun j=>!(b.setIfInBounds i true).getD j false)=((List.range ops.size).filter fun j=>!b.getD j false).filter fun j=>decide (j≠i):=by
   rw[List.filter_filter]
   refine List.filter_congr fun j _=>?_
   by_cases e:i=j
   ·subst e;simp[k]
   ·rw[zU false e];simp[xj e]
  rw[x]
  have F:=(List.length_filter_lt_length_iff_exists (p:=fun j=>decide (j≠i)) (l:=(List.range ops.size).filter fun j=>!b.getD j false)).2 ⟨i,List.mem_filter.2 ⟨yZ.2 c,by rw[g];rfl⟩,by simp⟩
  omega
theorem KX{id:Nat}{h:Act}{s:World}(u:P.follows .mixedOrders=true)(d:Array Bool->Array Value->World->Prop)(k:Nat->Value->World->Prop)(r:Nat->World->World->Prop)(p:FK ops=true)(n:GQ h.tmps.size ops=true)
 (q:∀i j v w w',j≠i->(∀f,Kr ops f j i=false)->r i w w'->k j v w->k j v w')(h0:d (Array.replicate ops.size false) h.tmps s.drew)
 (g:∀i b a w,IS ops h d k b a w->i∈Region.ready .any ops b->∀o,ops[i]?=some o->wpOp P ops Q i (fun t w'=>∃v,t=a.put o.dst v∧d (b.setIfInBounds i true) (a.put o.dst v).tmps w'∧r i w w'∧k i v w') a w)
 (l:∀b a w,(∀i,i < ops.size->b.getD i false=true)->IS ops h d k b a w->Q .normal a w):(Code.region id ops true).wp P Q h s:=by
 refine wp_region_any u ?_
 have e:∀i,(Array.replicate ops.size false).getD i false=false:=fun i=>by
  simp[Array.getElem?_replicate];split<;>rfl
 refine Qh p n q g l ops.size _ h _ (.inr ?_) ⟨by simp,fun m c=>?_,h0,rfl,rfl,fun m c=>?_,fun _ _=>rfl⟩
 ·exact yr (List.length_filter_le _ _) (by simp)
 ·rw[e] at c;cases c
 ·rw[e] at c;cases c
def Dw(id:Nat):Code->Option (Array Oper)
 |.region i ops _=>if i=id then some ops else none
 |.seq x y=>(Dw id x).or (Dw id y)
 |.cond _ x y=>(Dw id x).or (Dw id y)
 |.block _ x=>Dw id x
 |.loop x=>Dw id x
 |.rangeFunc _ _ x y=>(Dw id x).or (Dw id y)
 |.scope x=>Dw id x
 |_=>none
def Fx(f:Func)(id:Nat):Option (Array Oper):=f.body.bind (Dw id)
def Rw(c:Array Value->World->Prop)(e:World->World->Prop)(d:Value->World->Prop)(b:Option Tmp)(a:Act)(w:World)(f:Act)(w':World):Prop:=
 ∃v,f=a.put b v∧c (a.put b v).tmps w'∧e w w'∧d v w'
def Mk(ops:Array Oper):Bool:=ops.all fun o=>o.guard.isNone
theorem Df{id:Nat}{k:Act}{r:World}(t:P.follows .mixedOrders=true)(c:Array Bool->Array Value->World->Prop)(g:Nat->Value->World->Prop)(n:Nat->World->World->Prop)(m:FK ops=true)(l:GQ k.tmps.size ops=true)
 (e:Mk ops=true)(p:∀i j v w w',j≠i->(∀f,Kr ops f j i=false)->n i w w'->g j v w->g j v w')(h0:c (Array.replicate ops.size false) k.tmps r.drew)
 (d:∀i b a w,IS ops k c g b a w->i∈Region.ready .any ops b->∀o,ops[i]?=some o->o.wp P a w (Rw (c (b.setIfInBounds i true)) (n i) (g i) o.dst a w) Q)
 (h:∀b a w,(∀i,i < ops.size->b.getD i false=true)->IS ops k c g b a w->Q .normal a w):(Code.region id ops true).wp P Q k r:=by
 refine KX t c g n m l p h0 (fun i b a w hM hi o q=>?_) h
 unfold wpOp
 rw[q]
 have u:o.guard=none:=by
  unfold Mk at e
  rw[zo] at e
  simpa using e o (xk q)
 have s:Region.wanted o (yielded ops a.tmps)=true:=by simp[Region.wanted,u]
 simp only[s,zY]
 exact .inl (d i b a w hM hi o q)
theorem IS.dep{m:Act}{k:Array Bool->Array Value->World->Prop}{l:Nat->Value->World->Prop}{b:Array Bool}{a:Act}{w:World}(h:IS ops m k l b a w){i:Nat}(hi:i∈Region.ready .any ops b)
 (j:Nat)(t:Tmp)(hb:((ops[i]?).any fun o=>o.after.any fun e=>e.on==j&&Region.binds .any e)=true)(hd:(ops[j]?).bind (·.dst)=some t):l j (a.tmps[t]?.getD undef) w:=by
 rw[<-yG]
 obtain ⟨_,o,n,c⟩:=xi.1 hi
 rw[n,Option.any_some,xM] at hb
 obtain ⟨e,p,d⟩:=hb
 simp only[yt,beq_iff_eq] at d
 obtain ⟨rfl,g⟩:=d
 cases f:ops[e.on]? with
 |none=>rw[f] at hd;cases hd
 |some oj=>
  rw[f,xE] at hd
  exact h.done e.on (c e p g) oj t f hd
theorem IS.came{l:Act}{f:Array Bool->Array Value->World->Prop}{g:Nat->Value->World->Prop}{b:Array Bool}{a:Act}{w:World}(_:IS ops l f g b a w){i:Nat}(hi:i∈Region.ready .any ops b)
 (j:Nat)(hb:((ops[i]?).any fun o=>o.after.any fun e=>e.on==j&&Region.binds .any e)=true):b.getD j false=true:=by
 obtain ⟨_,o,h,d⟩:=xi.1 hi
 rw[h,Option.any_some,xM] at hb
 obtain ⟨e,k,c⟩:=hb
 simp only[yt,beq_iff_eq] at c
 rw[<-c.1]
 exact d e k c.2
theorem IS.not_yet{j:Act}{e:Array Bool->Array Value->World->Prop}{f:Nat->Value->World->Prop}{b:Array Bool}{a:Act}{w:World}(h:IS ops j e f b a w){i:Nat}(hi:i∈Region.ready .any ops b):b.getD i false=false:=by
 obtain ⟨c,o,g,_⟩:=xi.1 hi
 have d:i < b.size:=by rw[h.size];exact (yf.1 g).1
 simp[d] at c ⊢
 exact c
theorem IS.old{p:Act}{l:Array Bool->Array Value->World->Prop}{r:Nat->Value->World->Prop}{b:Array Bool}{a:Act}{w:World}(h:IS ops p l r b a w){i:Nat}(hi:i∈Region.ready .any ops b)
 (k:Tmp)(hb:(ops.all fun o=>o.dst !=some k||o.after.any fun e=>e.on==i&&Region.binds .any e)=true)(v:Value)(q:p.tmps.getD k undef=v):a.tmps[k]?.getD undef=v:=by
 rw[<-yG,<-q]
 refine h.free k fun m s n g hd=>?_
 rw[zo] at hb
 have:=hb n (xk g)
 rw[hd] at this
 simp only[bne_self_eq_false,Bool.false_or,xM] at this
 obtain ⟨e,t,d⟩:=this
 simp only[yt,beq_iff_eq] at d
 have c:=h.down m s n g e t d.2
 rw[d.1] at c
 have f:=(xi.1 hi).1
 have j:=Mj c
 simp[j] at f c
 rw[c] at f;cases f
theorem JE{a b:Act}(D:List Nat)(hs:a.tmps.size=b.tmps.size)(hd:a.defers=b.defers)(g:∀k,k∉D->a.tmps.getD k undef=b.tmps.getD k undef):
  a={tmps:=D.foldl (fun t k=>t.setIfInBounds k (a.tmps.getD k undef)) b.tmps,defers:=b.defers}:=by
 have c:∀(D:List Nat) (t:Array Value),t.size=a.tmps.size->(∀k,k∉D->a.tmps.getD k undef=t.getD k undef)->a.tmps=D.foldl (fun t k=>t.setIfInBounds k (a.tmps.getD k undef)) t:=by
  intro D
  induction D with
  |nil=>
   intro t f h
   apply Array.ext f.symm
   intro i h1 h2
   have:=h i (by simp)
   simpa[h1,h2] using this
  |cons x r ih=>
   intro t f h
   rw[List.foldl_cons]
   refine ih _ (by simp[f]) fun k j=>?_
   by_cases e:x=k
   ·subst e
    by_cases l:x < t.size
    ·simp[l]
    ·simp[xb (show a.tmps.size<=x by omega)]
   ·rw[h k (by simp[j,xj e])]
    simp[e]
 obtain ⟨t,d⟩:=a
 simp only at hd
 subst hd
 exact yH (fun t=>({tmps:=t,defers:=b.defers}:Act)) (c D b.tmps hs.symm g)
end Go.Proofs.Ytghepahgkcigpaa
namespace Go.Proofs.Ytghepahgkcigpaa
open Go
theorem OP{P:Program}{o:Oper}{a:Act}{w:World}{K:Act->World->Prop}{Q:QT}{l n:Nat}(hd:∀c,o.op≠.defer c)(h:Oper.wp P o a w K Q):Oper.wpIn (Fence.wide.inRound l) n P o a w K Q:=by
 refine ⟨fun _ _=>trivial,?_⟩
 rw[Fence.inRound_round,xm l a.eval o hd]
 unfold Oper.wp at h
 generalize (execOp a.eval o).run P w=r at h ⊢
 cases r with
 |ok x w'=>
  cases x with
  |value v=>exact h
  |skip=>exact h
  |defer d=>exact h
  |enter f args=>exact ⟨fun h=>(by cases h),z8.2 h⟩
  |row r args=>exact ⟨fun h=>(by cases h),fun c cs _=>let ⟨v,w2,q,s⟩:=h c cs;⟨v,w2,q,stepsIn_wide.2 s⟩⟩
  |_=>exact h.elim
 |halt x w'=>cases x<;>exact h
def Ta(ops:Array Oper):Bool:=ops.all fun o=>match o.op with
 |.defer _=>false
 |_=>true
section
variable{F:Fence}{n:Nat}{P:Program}{ops:Array Oper}{Q:QT}
theorem NC{B:Act}{m:Array Bool->Array Value->World->Prop}{x:Nat->Value->World->Prop}{I:Nat->World->World->Prop}(z:FK ops=true)(D:GQ B.tmps.size ops=true)
 (G:∀i j v w w',j≠i->(∀f,Kr ops f j i=false)->I i w w'->x j v w->x j v w')
 (t:∀i b a w,IS ops B m x b a w->i∈Region.ready .any ops b->∀o,ops[i]?=some o->wpOpIn F n P ops Q i (fun J w'=>∃v,J=a.put o.dst v∧m (b.setIfInBounds i true) (a.put o.dst v).tmps w'∧I i w w'∧x i v w') a w)
 (s:∀b a w,(∀i,i < ops.size->b.getD i false=true)->IS ops B m x b a w->Q .normal a w):
  ∀(fuel:Nat) (b:Array Bool) (a:Act) (w:World),(∀i,i < ops.size->b.getD i false=true)∨((List.range ops.size).filter fun i=>!b.getD i false).length<=fuel->IS ops B m x b a w->wpAnyIn F n P .any ops Q fuel b a w:=by
 intro fuel
 induction fuel with
 |zero=>
  intro b a w u hM
  have q:∀i,i < ops.size->b.getD i false=true:=by
   rcases u with u|u
   ·exact u
   ·intro i hi
    have h0:=z6.1 (Nat.le_zero.1 u)
    have:=List.filter_eq_nil_iff.1 h0 i (yZ.2 hi)
    simpa using this
  refine ⟨?_,s _ _ _ q hM⟩
  cases C:Region.ready .any ops b with
  |nil=>rfl
  |cons i r=>
   exfalso
   have hi:i∈Region.ready .any ops b:=by rw[C];simp
   obtain ⟨d,o,A,_⟩:=xi.1 hi
   have c:=(yf.1 A).1
   have:=q i c
   have k:i < b.size:=by rw[hM.size];exact c
   simp[k] at d this
   rw[this] at d;cases d
 |succ fuel ih=>
  intro b a w u hM
  refine ⟨fun C=>s _ _ _ (Ks z hM.size C) hM,fun i hi=>?_⟩
  obtain ⟨d,o,A,_⟩:=xi.1 hi
  have c:=(yf.1 A).1
  have k:i < b.size:=by rw[hM.size];exact c
  have g:b.getD i false=false:=by simp[k] at d ⊢;exact d
  refine wpOpIn_mono (fun J w' N=>?_) (t i b a w hM hi o A)
  obtain ⟨v,rfl,M,E,K⟩:=N
  refine ih _ _ _ (.inr ?_) (hM.next z D G hi A M E K)
  have L:=u.resolve_left (fun h=>by rw[h i c] at g;cases g)
  have y:((List.range ops.size).filter fun j=>!(b.setIfInBounds i true).getD j false)=((List.range ops.size).filter fun j=>!b.getD j false).filter fun j=>decide (j≠i):=by
   rw[List.filter_filter]
   refine List.filter_congr fun j _=>?_
   by_cases e:i=j
   ·subst e;simp[k]
   ·rw[zU false e];simp[xj e]
  rw[y]
  have H:=(List.length_filter_lt_length_iff_exists (p:=fun j=>decide (j≠i)) (l:=(List.range ops.size).filter fun j=>!b.getD j false)).2 ⟨i,List.mem_filter.2 ⟨yZ.2 c,by rw[g];rfl⟩,by simp⟩
  omega
theorem Jm{id:Nat}{h:Act}{t:World}(x:P.follows .mixedOrders=true)(d:Array Bool->Array Value->World->Prop)(k:Nat->Value->World->Prop)(s:Nat->World->World->Prop)(q:FK ops=true)(p:GQ h.tmps.size ops=true)
 (r:∀i j v w w',j≠i->(∀f,Kr ops f j i=false)->s i w w'->k j v w->k j v w')(h0:d (Array.replicate ops.size false) h.tmps t.drew)
 (g:∀i b a w,IS ops h d k b a w->i∈Region.ready .any ops b->∀o,ops[i]?=some o->wpOpIn F n P ops Q i (fun u w'=>∃v,u=a.put o.dst v∧d (b.setIfInBounds i true) (a.put o.dst v).tmps w'∧s i w w'∧k i v w') a w)
 (l:∀b a w,(∀i,i < ops.size->b.getD i false=true)->IS ops h d k b a w->Q .normal a w):(Code.region id ops true).wpIn F n P Q h t:=by
 refine wpIn_region_any x ?_
 have e:∀i,(Array.replicate ops.size false).getD i false=false:=fun i=>by
  simp[Array.getElem?_replicate];split<;>rfl
 refine NC q p r g l ops.size _ h _ (.inr ?_) ⟨by simp,fun m c=>?_,h0,rfl,rfl,fun m c=>?_,fun _ _=>rfl⟩
 ·exact yr (List.length_filter_le _ _) (by simp)
 ·rw[e] at c;cases c
 ·rw[e] at c;cases c
end
section
variable{n:Nat}{P:Program}{ops:Array Oper}{Q:QT}
theorem Ga{id l:Nat}{p:Act}{x:World}(z:P.follows .mixedOrders=true)(d:Array Bool->Array Value->World->Prop)(k:Nat->Value->World->Prop)(t:Nat->World->World->Prop)(s:FK ops=true)(r:GQ p.tmps.size ops=true)
 (h:Mk ops=true)(g:Ta ops=true)(u:∀i j v w w',j≠i->(∀f,Kr ops f j i=false)->t i w w'->k j v w->k j v w')(h0:d (Array.replicate ops.size false) p.tmps x.drew)
 (e:∀i b a w,IS ops p d k b a w->i∈Region.ready .any ops b->∀o,ops[i]?=some o->o.wp P a w (Rw (d (b.setIfInBounds i true)) (t i) (k i) o.dst a w) Q)
 (m:∀b a w,(∀i,i < ops.size->b.getD i false=true)->IS ops p d k b a w->Q .normal a w):(Code.region id ops true).wpIn (Fence.wide.inRound l) n P Q p x:=by
 refine Jm z d k t s r u h0 (fun i b a w hM hi o q=>?_) m
 unfold wpOpIn
 rw[q]
 have A:o.guard=none:=by
  unfold Mk at h
  rw[zo] at h
  simpa using h o (xk q)
 have y:Region.wanted o (yielded ops a.tmps)=true:=by simp[Region.wanted,A]
 simp only[y,zY]
 refine OP (fun c hc=>?_) (e i b a w hM hi o q)
 unfold Ta at g
 rw[zo] at g
 have h2:=g o (xk q)
 rw[hc] at h2
 cases h2
end
end Go.Proofs.Ytghepahgkcigpaa
namespace Go.Proofs.Ytghepahgkcigpaa
open Go.RowKit Go.ChangeShapes Go.WideShapes Go.Deep
theorem PN{α:Type}{P:Nat->α->Prop}:∀n:Nat,(∀i,i < n->∃t,P i t)->∃a:List α,a.length=n∧∀i (h:i < a.length),P i a[i]
 |0,_=>⟨[],rfl,fun i h=>by simp at h⟩
 |n+1,h=>by
  obtain ⟨a,hl,c⟩:=PN n (fun i hi=>h i (by omega))
  obtain ⟨t,d⟩:=h n (by omega)
  refine ⟨a++[t],by simp[hl],fun i hi=>?_⟩
  by_cases b:i < a.length
  ·rw[xZ b];exact c i b
  ·have e:i=a.length:=by simp at hi;omega
   subst e
   simp only[xW (ye _),Nat.sub_self,List.getElem_cons_zero]
   rw[hl];exact d
theorem DX{H:Type}{P:Program}{e:TypeId}{d:DataW H}{n:Nat}:∀ {l:List (DataW H)},d∈l->n∈d.weights P e->n∈DataW.weightsAll P e l
 |[],h,_=>by simp at h
 |x::r,h,hn=>by
  simp only[DataW.weightsAll,yo]
  rcases yJ.1 h with rfl|h
  ·exact .inl hn
  ·exact .inr (DX h hn)
theorem PO{w:World}{a:Addr}{v:Value}(h:w.cell? a=some v):a.block < w.heap.size:=by
 rcases zO a.block w.heap.size with b|b
 ·exact b
 ·simp[World.cell?,xb b] at h
theorem A9{α:Type}(l:List α)(o n:Nat):l.drop o=(l.drop o).take n++l.drop (o+n):=by
 rw[<-List.drop_drop];exact (xy _ _).symm
theorem CF:Try.prog.cellsOf 9=1:=by kernel_rfl
theorem J1:Try.prog.cellsOf 3=1:=by kernel_rfl
theorem P2:Try.prog.cellsOf 4=1:=by kernel_rfl
theorem BC:Try.prog.cellsOf 23=2:=by kernel_rfl
theorem DY:Try.prog.cellsOf 49=12:=by kernel_rfl
theorem AJ:Try.prog.cellsOf 26=6:=by kernel_rfl
theorem MG:Try.prog.cellsOf 35=26:=by kernel_rfl
theorem L6:Try.prog.cellsOf 55=7:=by kernel_rfl
theorem KF:Try.prog.cellsOf 57=7:=by kernel_rfl
theorem Jr:Try.prog.cellsOf 51=51:=by kernel_rfl
theorem KG:Try.prog.cellsOf 59=12:=by kernel_rfl
theorem KH:Try.prog.cellsOf 66=8:=by kernel_rfl
theorem KI:Try.prog.cellsOf 64=23:=by kernel_rfl
theorem Js:Try.prog.cellsOf 68=37:=by kernel_rfl
theorem KJ:Try.prog.cellsOf 70=11:=by kernel_rfl
theorem Ht:Try.prog.cellsOf 27=1:=by kernel_rfl
theorem H6:Try.prog.cellsOf 28=1:=by kernel_rfl
theorem GH:Try.prog.cellsOf 29=1:=by kernel_rfl
theorem H7:Try.prog.cellsOf 30=1:=by kernel_rfl
theorem H8:Try.prog.cellsOf 62=1:=by kernel_rfl
theorem H9:Try.prog.cellsOf 31=1:=by kernel_rfl
theorem GI:Try.prog.cellsOf 32=1:=by kernel_rfl
theorem Ha:Try.prog.cellsOf 33=1:=by kernel_rfl
theorem P3:0 < Try.prog.bytesOf 26:=yv (by kernel_rfl)
theorem Qx:0 < Try.prog.bytesOf 55:=yv (by kernel_rfl)
theorem P4:0 < Try.prog.bytesOf 57:=yv (by kernel_rfl)
theorem O4:0 < Try.prog.bytesOf 51:=yv (by kernel_rfl)
theorem P5:0 < Try.prog.bytesOf 59:=yv (by kernel_rfl)
theorem P6:0 < Try.prog.bytesOf 66:=yv (by kernel_rfl)
theorem Qy:0 < Try.prog.bytesOf 64:=yv (by kernel_rfl)
theorem O5:0 < Try.prog.bytesOf 68:=yv (by kernel_rfl)
theorem P7:0 < Try.prog.bytesOf 70:=yv (by kernel_rfl)
section
variable{H:Type}{enc:TypeId × Value->H}{W:World}
def Wt(t:TypeId)(d:DataW H):Prop:=∀k∈d.weights Try.prog t,k<=reachBytes
def Jt(W:World)(b:Nat):Prop:=b < W.heap.size
theorem DZ{α:Type}{t e:TypeId}{sz:Nat}{Pr:LV->α->Prop}(D:Try.prog.underlying t=some (.slice e))(y:Try.prog.cellsOf e=sz)(E:0 < Try.prog.bytesOf e)(B:0 < sz){fuel:Nat}{x0:Value}{d:DataW H}{ps:List MemPlace}
 (R:∀n,n < fuel->∀cs d ps,DataW.trod enc Try.prog W 0 (fun _=>true) true n e cs=some (d,ps)->Wt e d->cs.length=sz->∃x,Pr cs x)
 (h:DataW.trod enc Try.prog W 0 (fun _=>true) true fuel t [x0]=some (d,ps))(M:Wt t d):∃(hd:Av) (l:List α),x0=hd.v∧Az (Jt W) W sz Pr hd l∧hd.n<=hd.c:=by
 rcases DataW.trod_slice D h with ⟨m,_⟩|⟨a,len,cap,f,rest,n,Q,m,A,hb,hl,T,K,w,_,_⟩
 ·obtain rfl:x0=.slice none 0 0:=(xt m).1
  exact ⟨⟨none,0,0⟩,[],rfl,⟨rfl,by simp,fun i h=>by simp at h⟩,ye _⟩
 ·obtain rfl:x0=.slice (some a) len cap:=(xt m).1
  simp only[zq] at A
  have I:len<=140737488355328:=by
   have h1:=M ((f.length+rest.length)*Try.prog.bytesOf e) (by
    rw[A.1,DataW.weights,D]
    simp)
   have h2:reachBytes < 2 ^ 47:=reachBytes_lt
   have h3:f.length+rest.length<=(f.length+rest.length)*Try.prog.bytesOf e:=Nat.le_mul_of_pos_right _ E
   omega
  have r:∀i,i < len->∃q:LV × α,q.1.length=sz∧(∀j,j < sz->W.cell? ((a.add (i*sz)).add j)=q.1[j]?)∧Pr q.1 q.2:=by
   intro i hi
   have h1:=w i hi
   have h2:f[i]?=some (f[i]'(by omega)):=yk _
   rw[h2,y] at h1
   obtain ⟨cs,hc,u⟩:=Option.bind_eq_some_iff.1 h1
   obtain ⟨_,p,F⟩:=World.cells?_some hc
   obtain ⟨x,z⟩:=R n (by omega) cs _ _ u (fun k O=>M k (by
    rw[A.1,DataW.weights,D]
    exact List.mem_cons_of_mem _ (yo.2 (.inl (DX (zw.2 ⟨_,yy (by omega),rfl⟩) O))))) p
   exact ⟨(cs,x),p,F,z⟩
  by_cases h0:len=0
  ·subst h0
   exact ⟨⟨some a,0,cap⟩,[],rfl,⟨rfl,by simp,fun i h=>by simp at h⟩,hl⟩
  ·obtain ⟨C,N,z⟩:=PN len r
   obtain ⟨P,U,c0,_⟩:=r 0 (by omega)
   have s:W.cell? a=some (P.1[0]'(by omega)):=by
    have:=c0 0 B
    rw[yk (by omega)] at this
    simpa[Addr.add] using this
   have g:a.spot=none:=World.cell?_spot s
   have o:a.block < W.heap.size:=PO s
   obtain ⟨b,off,L⟩:=a
   simp only at g o
   subst g
   refine ⟨⟨some (aV b off),len,cap⟩,C.map (·.2),rfl,⟨by simp[N],by simp[N];omega,fun i hi=>?_⟩,hl⟩
   have G:i < C.length:=by simpa using hi
   obtain ⟨p1,p2,p3⟩:=z i G
   refine ⟨b,off,(C[i]).1,rfl,o,p1,fun j v J=>?_,by simpa using p3⟩
   have S:=(yD.1 J).1
   have:=p2 j (by omega)
   rw[J] at this
   simpa[zy,zN] using this
theorem O6{a:Option Addr}:∀ {l:List Ex} {k:Nat},(∀i (h:i < l.length),∃b o cs,a=some ⟨b,o,none⟩∧Jt W b∧W.rangeAt b (o+(k+i)*6) cs∧AP (Jt W) W l[i] cs)->Db (Jt W) W a k l
 |[],_,_=>by rw[Db];trivial
 |e::r,k,h=>by
  rw[Db]
  refine ⟨h 0 (by simp),O6 fun i hi=>?_⟩
  obtain ⟨b,o,cs,h1,h2,h3,h4⟩:=h (i+1) (by simpa using hi)
  exact ⟨b,o,cs,h1,h2,by rw[show k+1+i=k+(i+1) by omega];exact h3,by simpa using h4⟩
theorem E0{fuel:Nat}{cs:LV}{d:DataW H}{ps:List MemPlace}(h:DataW.trod enc Try.prog W 0 (fun _=>true) true fuel 9 cs=some (d,ps)):∃s:ByteArray,cs=[.string s]∧s.size<=maxLen:=by
 obtain ⟨s,h1,_,h2⟩:=DataW.trod_string qQ h
 exact ⟨s,h1,h2⟩
theorem Fk{fuel:Nat}{cs:LV}{d:DataW H}{ps:List MemPlace}(h:DataW.trod enc Try.prog W 0 (fun _=>true) true fuel 3 cs=some (d,ps)):∃z,cs=[.int .i64 z]:=by
 obtain ⟨z,h1,_⟩:=DataW.trod_int qw h
 exact ⟨z,h1⟩
theorem Qz{fuel:Nat}{cs:LV}{d:DataW H}{ps:List MemPlace}(h:DataW.trod enc Try.prog W 0 (fun _=>true) true fuel 4 cs=some (d,ps)):∃z,cs=[.bool z]:=by
 obtain ⟨z,h1,_⟩:=DataW.trod_bool qC h
 exact ⟨z,h1⟩
theorem Dv{fuel:Nat}{cs:LV}{d:DataW H}{ps:List MemPlace}(h:DataW.trod enc Try.prog W 0 (fun _=>true) true fuel 23 cs=some (d,ps)):∃r:Rf,cs=Ah r∧r.name.size<=maxLen:=by
 obtain ⟨f,n,_,g,a,c,b⟩:=zC qo h
 rw[BC] at a
 match cs,a,f,c with
 |[x0,x1],_,[y0,y1],_=>
  have e:=b 0 _ rfl
  have t1:=b 1 _ rfl
  simp only[xI,List.getElem?_cons_succ] at e t1
  obtain ⟨s,e0,hs⟩:=E0 e
  obtain ⟨z,e1⟩:=Fk t1
  obtain rfl:x0=.string s:=(xt (show [x0]=[_] from e0)).1
  obtain rfl:x1=iV z:=(xt (show [x1]=[_] from e1)).1
  exact ⟨⟨s,z⟩,rfl,hs⟩
theorem AS:∀(fuel:Nat) (cs:LV) (d:DataW H) (ps:List MemPlace),DataW.trod enc Try.prog W 0 (fun _=>true) true fuel 26 cs=some (d,ps)->Wt 26 d->∃e:Ex,AP (Jt W) W e cs:=by
 intro fuel
 induction fuel using Nat.strongRecOn with
 |ind fuel ih=>
  intro cs d ps h s
  obtain ⟨G,n,I,x,p,u,f⟩:=zC qq h
  rw[AJ] at p
  simp only[zq] at x
  match cs,p,G,u with
  |[x0,x1,x2,x3,x4,x5],_,[y0,y1,y2,y3,y4],_=>
   have w:=f 0 _ rfl
   have t1:=f 1 _ rfl
   have t2:=f 2 _ rfl
   have t3:=f 3 _ rfl
   have t4:=f 4 _ rfl
   simp only[xI,List.getElem?_cons_succ] at w t1 t2 t3 t4
   obtain ⟨y,e0⟩:=Fk w
   obtain ⟨z,e1⟩:=Fk t1
   obtain ⟨A,e2⟩:=Fk t2
   obtain ⟨r,q,C⟩:=Dv t3
   obtain rfl:x0=iV y:=(xt (show [x0]=[_] from e0)).1
   obtain rfl:x1=iV z:=(xt (show [x1]=[_] from e1)).1
   obtain rfl:x2=iV A:=(xt (show [x2]=[_] from e2)).1
   have q:[x3,x4]=[Value.string r.name,iV r.n]:=q
   obtain ⟨rfl,J⟩:=xt q
   obtain ⟨rfl,_⟩:=xt J
   obtain ⟨hd,l,E,g,_⟩:=DZ (x0:=x5) (Pr:=fun cs e=>AP (Jt W) W e cs) qp AJ P3 (by decide) (fun m L cs d ps h s _=>ih m (by omega) cs d ps h s) (show DataW.trod enc Try.prog W 0 (fun _=>true) true n 24 [x5]=some (y4.1,y4.2) from t4) (fun k B=>s k (by
    rw[x.1,DataW.weights,qq]
    exact yC (j:=4) (t:=24) (d:=y4.1) rfl rfl _ B))
   subst E
   refine ⟨.mk y z A r.name r.n l,?_⟩
   rw[AP]
   refine ⟨hd.a,hd.c,by unfold Av.v;rw[g.1],g.2.1,C,O6 fun i hi=>?_⟩
   obtain ⟨b,o,cs,g1,K,_,F,D⟩:=g.2.2 i hi
   exact ⟨b,o,cs,g1,K,by rw[yA];exact F,D⟩
theorem O7{fuel:Nat}{cs:LV}{d:DataW H}{ps:List MemPlace}(h:DataW.trod enc Try.prog W 0 (fun _=>true) true fuel 49 cs=some (d,ps))(r:Wt 49 d):∃(e f:Ex) (c q:LV),cs=c++q∧AP (Jt W) W e c∧AP (Jt W) W f q:=by
 obtain ⟨s,n,t,j,a,o,b⟩:=DataW.trod_array qE h
 simp only[zq] at j
 rw[DY] at a
 match s,o with
 |[y0,y1],_=>
  have p:DataW.trod enc Try.prog W 0 (fun _=>true) true n 26 ((cs.drop (0*Try.prog.cellsOf 26)).take (Try.prog.cellsOf 26))=some (y0.1,y0.2):=b 0 (by decide)
  have t1:DataW.trod enc Try.prog W 0 (fun _=>true) true n 26 ((cs.drop (1*Try.prog.cellsOf 26)).take (Try.prog.cellsOf 26))=some (y1.1,y1.2):=b 1 (by decide)
  rw[AJ] at p t1
  obtain ⟨e,v⟩:=AS n _ _ _ p (fun k i=>r k (by
   rw[j.1,DataW.weights,qE]
   exact DX (d:=y0.1) (by simp) i))
  obtain ⟨f,u⟩:=AS n _ _ _ t1 (fun k i=>r k (by
   rw[j.1,DataW.weights,qE]
   exact DX (d:=y1.1) (by simp) i))
  refine ⟨e,f,_,_,?_,v,u⟩
  have m:=A9 cs 0 6
  have l:=A9 cs 6 6
  have g:cs.drop 12=[]:=by rw[<-a];exact zk
  simp only[Nat.reduceAdd,Nat.zero_mul,Nat.one_mul] at m l ⊢
  rw[g,zn] at l
  rw[zP] at m
  rw[<-l]
  rw[zP]
  exact m
theorem Se(fuel:Nat)(cs:LV)(d:DataW H)(ps:List MemPlace)(h:DataW.trod enc Try.prog W 0 (fun _=>true) true fuel 55 cs=some (d,ps))(w:Wt 55 d)(f:cs.length=7):∃x:Dx,FP (Jt W) W cs x:=by
 obtain ⟨s,n,y,p,_,b,a⟩:=zC qH h
 simp only[zq] at p
 have b:s.length=2:=b
 match s,b with
 |[y0,y1],_=>
  have g:DataW.trod enc Try.prog W 0 (fun _=>true) true n 9 ((cs.drop 0).take (Try.prog.cellsOf 9))=some (y0.1,y0.2):=a 0 _ rfl
  rw[CF] at g
  have t1:DataW.trod enc Try.prog W 0 (fun _=>true) true n 26 ((cs.drop 1).take (Try.prog.cellsOf 26))=some (y1.1,y1.2):=a 1 _ rfl
  rw[AJ] at t1
  have m:cs=cs.drop 0:=rfl
  have c:=A9 cs 0 1
  obtain ⟨A,i⟩:∃q,q=(cs.drop 0).take 1:=⟨_,rfl⟩
  rw[<-i] at g c
  have o:=A9 cs 1 6
  obtain ⟨r,l⟩:∃q,q=(cs.drop 1).take 6:=⟨_,rfl⟩
  rw[<-l] at t1 o
  have e:cs.drop 7=[]:=by rw[<-f];exact zk
  simp only[Nat.reduceAdd] at c o
  rw[zP] at c
  rw[o] at c
  rw[e] at c
  clear m
  obtain ⟨v0,e0,v⟩:=E0 g
  obtain ⟨z,e1⟩:=AS n r _ _ t1 (fun k u=>w k (by
   rw[p.1,DataW.weights,qH]
   exact yC (j:=1) (t:=26) (d:=y1.1) rfl rfl _ u))
  exact ⟨⟨v0,z⟩,v,r,by rw[c,e0];simp,e1⟩
theorem QA(fuel:Nat)(cs:LV)(d:DataW H)(ps:List MemPlace)(h:DataW.trod enc Try.prog W 0 (fun _=>true) true fuel 57 cs=some (d,ps))(w:Wt 57 d)(f:cs.length=7):∃x:BY,Dq (Jt W) W cs x:=by
 obtain ⟨s,n,y,p,_,b,a⟩:=zC qI h
 simp only[zq] at p
 have b:s.length=2:=b
 match s,b with
 |[y0,y1],_=>
  have g:DataW.trod enc Try.prog W 0 (fun _=>true) true n 9 ((cs.drop 0).take (Try.prog.cellsOf 9))=some (y0.1,y0.2):=a 0 _ rfl
  rw[CF] at g
  have t1:DataW.trod enc Try.prog W 0 (fun _=>true) true n 26 ((cs.drop 1).take (Try.prog.cellsOf 26))=some (y1.1,y1.2):=a 1 _ rfl
  rw[AJ] at t1
  have m:cs=cs.drop 0:=rfl
  have c:=A9 cs 0 1
  obtain ⟨A,i⟩:∃q,q=(cs.drop 0).take 1:=⟨_,rfl⟩
  rw[<-i] at g c
  have o:=A9 cs 1 6
  obtain ⟨r,l⟩:∃q,q=(cs.drop 1).take 6:=⟨_,rfl⟩
  rw[<-l] at t1 o
  have e:cs.drop 7=[]:=by rw[<-f];exact zk
  simp only[Nat.reduceAdd] at c o
  rw[zP] at c
  rw[o] at c
  rw[e] at c
  clear m
  obtain ⟨v0,e0,v⟩:=E0 g
  obtain ⟨z,e1⟩:=AS n r _ _ t1 (fun k u=>w k (by
   rw[p.1,DataW.weights,qI]
   exact yC (j:=1) (t:=26) (d:=y1.1) rfl rfl _ u))
  exact ⟨⟨v0,z⟩,v,r,by rw[c,e0];simp,e1⟩
theorem P8(fuel:Nat)(cs:LV)(d:DataW H)(ps:List MemPlace)(h:DataW.trod enc Try.prog W 0 (fun _=>true) true fuel 51 cs=some (d,ps))(g:Wt 51 d)(l:cs.length=51):∃x:Ax,CG (Jt W) W cs x:=by
 obtain ⟨K,n,a0,f,_,e,a⟩:=zC qG h
 simp only[zq] at f
 have e:K.length=8:=e
 match K,e with
 |[y0,y1,y2,y3,y4,y5,y6,y7],_=>
  have o:DataW.trod enc Try.prog W 0 (fun _=>true) true n 9 ((cs.drop 0).take (Try.prog.cellsOf 9))=some (y0.1,y0.2):=a 0 _ rfl
  rw[CF] at o
  have t1:DataW.trod enc Try.prog W 0 (fun _=>true) true n 23 ((cs.drop 1).take (Try.prog.cellsOf 23))=some (y1.1,y1.2):=a 1 _ rfl
  rw[BC] at t1
  have t2:DataW.trod enc Try.prog W 0 (fun _=>true) true n 26 ((cs.drop 3).take (Try.prog.cellsOf 26))=some (y2.1,y2.2):=a 2 _ rfl
  rw[AJ] at t2
  have t3:DataW.trod enc Try.prog W 0 (fun _=>true) true n 26 ((cs.drop 9).take (Try.prog.cellsOf 26))=some (y3.1,y3.2):=a 3 _ rfl
  rw[AJ] at t3
  have t4:DataW.trod enc Try.prog W 0 (fun _=>true) true n 26 ((cs.drop 15).take (Try.prog.cellsOf 26))=some (y4.1,y4.2):=a 4 _ rfl
  rw[AJ] at t4
  have t5:DataW.trod enc Try.prog W 0 (fun _=>true) true n 26 ((cs.drop 21).take (Try.prog.cellsOf 26))=some (y5.1,y5.2):=a 5 _ rfl
  rw[AJ] at t5
  have t6:DataW.trod enc Try.prog W 0 (fun _=>true) true n 49 ((cs.drop 27).take (Try.prog.cellsOf 49))=some (y6.1,y6.2):=a 6 _ rfl
  rw[DY] at t6
  have t7:DataW.trod enc Try.prog W 0 (fun _=>true) true n 49 ((cs.drop 39).take (Try.prog.cellsOf 49))=some (y7.1,y7.2):=a 7 _ rfl
  rw[DY] at t7
  have w:cs=cs.drop 0:=rfl
  have b:=A9 cs 0 1
  obtain ⟨q0,D⟩:∃q,q=(cs.drop 0).take 1:=⟨_,rfl⟩
  rw[<-D] at o b
  have u:=A9 cs 1 2
  obtain ⟨q1,A⟩:∃q,q=(cs.drop 1).take 2:=⟨_,rfl⟩
  rw[<-A] at t1 u
  have B:=A9 cs 3 6
  obtain ⟨L,s⟩:∃q,q=(cs.drop 3).take 6:=⟨_,rfl⟩
  rw[<-s] at t2 B
  have C:=A9 cs 9 6
  obtain ⟨J,z⟩:∃q,q=(cs.drop 9).take 6:=⟨_,rfl⟩
  rw[<-z] at t3 C
  have m:=A9 cs 15 6
  obtain ⟨I,F⟩:∃q,q=(cs.drop 15).take 6:=⟨_,rfl⟩
  rw[<-F] at t4 m
  have r:=A9 cs 21 6
  obtain ⟨M,p⟩:∃q,q=(cs.drop 21).take 6:=⟨_,rfl⟩
  rw[<-p] at t5 r
  have y:=A9 cs 27 12
  obtain ⟨q6,G⟩:∃q,q=(cs.drop 27).take 12:=⟨_,rfl⟩
  rw[<-G] at t6 y
  have E:=A9 cs 39 12
  obtain ⟨q7,v⟩:∃q,q=(cs.drop 39).take 12:=⟨_,rfl⟩
  rw[<-v] at t7 E
  have i:cs.drop 51=[]:=by rw[<-l];exact zk
  simp only[Nat.reduceAdd] at b u B C m r y E
  rw[zP] at b
  rw[u] at b
  rw[B] at b
  rw[C] at b
  rw[m] at b
  rw[r] at b
  rw[y] at b
  rw[E] at b
  rw[i] at b
  clear w
  obtain ⟨v0,e0,z0⟩:=E0 o
  obtain ⟨v1,e1,z1⟩:=Dv t1
  obtain ⟨R,e2⟩:=AS n L _ _ t2 (fun k c=>g k (by
   rw[f.1,DataW.weights,qG]
   exact yC (j:=2) (t:=26) (d:=y2.1) rfl rfl _ c))
  obtain ⟨v3,N⟩:=AS n J _ _ t3 (fun k c=>g k (by
   rw[f.1,DataW.weights,qG]
   exact yC (j:=3) (t:=26) (d:=y3.1) rfl rfl _ c))
  obtain ⟨v4,X⟩:=AS n I _ _ t4 (fun k c=>g k (by
   rw[f.1,DataW.weights,qG]
   exact yC (j:=4) (t:=26) (d:=y4.1) rfl rfl _ c))
  obtain ⟨v5,e5⟩:=AS n M _ _ t5 (fun k c=>g k (by
   rw[f.1,DataW.weights,qG]
   exact yC (j:=5) (t:=26) (d:=y5.1) rfl rfl _ c))
  obtain ⟨U,u6,c6,P,V,T,h6⟩:=O7 t6 (fun k c=>g k (by
   rw[f.1,DataW.weights,qG]
   exact yC (j:=6) (t:=49) (d:=y6.1) rfl rfl _ c))
  obtain ⟨v7,Y,O,S,Q,Z,h7⟩:=O7 t7 (fun k c=>g k (by
   rw[f.1,DataW.weights,qG]
   exact yC (j:=7) (t:=49) (d:=y7.1) rfl rfl _ c))
  exact ⟨⟨v0,v1,R,v3,v4,v5,U,u6,v7,Y⟩,z0,z1,L,J,I,M,c6,P,O,S,by rw[b,e0,e1,V,Q];simp,e2,N,X,e5,T,h6,Z,h7⟩
theorem QB(fuel:Nat)(cs:LV)(d:DataW H)(ps:List MemPlace)(h:DataW.trod enc Try.prog W 0 (fun _=>true) true fuel 59 cs=some (d,ps))(G:Wt 59 d)(f:cs.length=12):∃x:BL,DE (Jt W) W cs x:=by
 obtain ⟨A,n,I,y,_,c,a⟩:=zC qJ h
 simp only[zq] at y
 have c:A.length=5:=c
 match A,c with
 |[y0,y1,y2,y3,y4],_=>
  have m:DataW.trod enc Try.prog W 0 (fun _=>true) true n 9 ((cs.drop 0).take (Try.prog.cellsOf 9))=some (y0.1,y0.2):=a 0 _ rfl
  rw[CF] at m
  have t1:DataW.trod enc Try.prog W 0 (fun _=>true) true n 23 ((cs.drop 1).take (Try.prog.cellsOf 23))=some (y1.1,y1.2):=a 1 _ rfl
  rw[BC] at t1
  have t2:DataW.trod enc Try.prog W 0 (fun _=>true) true n 4 ((cs.drop 3).take (Try.prog.cellsOf 4))=some (y2.1,y2.2):=a 2 _ rfl
  rw[P2] at t2
  have t3:DataW.trod enc Try.prog W 0 (fun _=>true) true n 26 ((cs.drop 4).take (Try.prog.cellsOf 26))=some (y3.1,y3.2):=a 3 _ rfl
  rw[AJ] at t3
  have t4:DataW.trod enc Try.prog W 0 (fun _=>true) true n 23 ((cs.drop 10).take (Try.prog.cellsOf 23))=some (y4.1,y4.2):=a 4 _ rfl
  rw[BC] at t4
  have s:cs=cs.drop 0:=rfl
  have b:=A9 cs 0 1
  obtain ⟨O,p⟩:∃q,q=(cs.drop 0).take 1:=⟨_,rfl⟩
  rw[<-p] at m b
  have w:=A9 cs 1 2
  obtain ⟨N,r⟩:∃q,q=(cs.drop 1).take 2:=⟨_,rfl⟩
  rw[<-r] at t1 w
  have i:=A9 cs 3 1
  obtain ⟨L,v⟩:∃q,q=(cs.drop 3).take 1:=⟨_,rfl⟩
  rw[<-v] at t2 i
  have l:=A9 cs 4 6
  obtain ⟨z,o⟩:∃q,q=(cs.drop 4).take 6:=⟨_,rfl⟩
  rw[<-o] at t3 l
  have g:=A9 cs 10 2
  obtain ⟨M,u⟩:∃q,q=(cs.drop 10).take 2:=⟨_,rfl⟩
  rw[<-u] at t4 g
  have e:cs.drop 12=[]:=by rw[<-f];exact zk
  simp only[Nat.reduceAdd] at b w i l g
  rw[zP] at b
  rw[w] at b
  rw[i] at b
  rw[l] at b
  rw[g] at b
  rw[e] at b
  clear s
  obtain ⟨v0,e0,E⟩:=E0 m
  obtain ⟨J,e1,F⟩:=Dv t1
  obtain ⟨D,e2⟩:=Qz t2
  obtain ⟨v3,C⟩:=AS n z _ _ t3 (fun k B=>G k (by
   rw[y.1,DataW.weights,qJ]
   exact yC (j:=3) (t:=26) (d:=y3.1) rfl rfl _ B))
  obtain ⟨v4,K,z4⟩:=Dv t4
  exact ⟨⟨v0,J,D,v3,v4⟩,E,F,z4,z,by rw[b,e0,e1,e2,K];simp,C⟩
theorem QC(fuel:Nat)(cs:LV)(d:DataW H)(ps:List MemPlace)(h:DataW.trod enc Try.prog W 0 (fun _=>true) true fuel 66 cs=some (d,ps))(w:Wt 66 d)(f:cs.length=8):∃x:Bt,Dm (Jt W) W cs x:=by
 obtain ⟨s,n,y,p,_,b,a⟩:=zC qM h
 simp only[zq] at p
 have b:s.length=2:=b
 match s,b with
 |[y0,y1],_=>
  have g:DataW.trod enc Try.prog W 0 (fun _=>true) true n 23 ((cs.drop 0).take (Try.prog.cellsOf 23))=some (y0.1,y0.2):=a 0 _ rfl
  rw[BC] at g
  have t1:DataW.trod enc Try.prog W 0 (fun _=>true) true n 26 ((cs.drop 2).take (Try.prog.cellsOf 26))=some (y1.1,y1.2):=a 1 _ rfl
  rw[AJ] at t1
  have m:cs=cs.drop 0:=rfl
  have c:=A9 cs 0 2
  obtain ⟨A,i⟩:∃q,q=(cs.drop 0).take 2:=⟨_,rfl⟩
  rw[<-i] at g c
  have o:=A9 cs 2 6
  obtain ⟨r,l⟩:∃q,q=(cs.drop 2).take 6:=⟨_,rfl⟩
  rw[<-l] at t1 o
  have e:cs.drop 8=[]:=by rw[<-f];exact zk
  simp only[Nat.reduceAdd] at c o
  rw[zP] at c
  rw[o] at c
  rw[e] at c
  clear m
  obtain ⟨v0,e0,v⟩:=Dv g
  obtain ⟨z,e1⟩:=AS n r _ _ t1 (fun k u=>w k (by
   rw[p.1,DataW.weights,qM]
   exact yC (j:=1) (t:=26) (d:=y1.1) rfl rfl _ u))
  exact ⟨⟨v0,z⟩,v,r,by rw[c,e0];simp,e1⟩
theorem Sf(fuel:Nat)(cs:LV)(d:DataW H)(ps:List MemPlace)(h:DataW.trod enc Try.prog W 0 (fun _=>true) true fuel 64 cs=some (d,ps))(i:Wt 64 d)(c:cs.length=23):∃x:B7 × Av,Gg (Jt W) W x.2 cs x.1:=by
 obtain ⟨O,n,Y,o,_,g,a⟩:=zC qL h
 simp only[zq] at o
 have g:O.length=7:=g
 match O,g with
 |[y0,y1,y2,y3,y4,y5,y6],_=>
  have w:DataW.trod enc Try.prog W 0 (fun _=>true) true n 9 ((cs.drop 0).take (Try.prog.cellsOf 9))=some (y0.1,y0.2):=a 0 _ rfl
  rw[CF] at w
  have t1:DataW.trod enc Try.prog W 0 (fun _=>true) true n 23 ((cs.drop 1).take (Try.prog.cellsOf 23))=some (y1.1,y1.2):=a 1 _ rfl
  rw[BC] at t1
  have t2:DataW.trod enc Try.prog W 0 (fun _=>true) true n 3 ((cs.drop 3).take (Try.prog.cellsOf 3))=some (y2.1,y2.2):=a 2 _ rfl
  rw[J1] at t2
  have t3:DataW.trod enc Try.prog W 0 (fun _=>true) true n 26 ((cs.drop 4).take (Try.prog.cellsOf 26))=some (y3.1,y3.2):=a 3 _ rfl
  rw[AJ] at t3
  have t4:DataW.trod enc Try.prog W 0 (fun _=>true) true n 26 ((cs.drop 10).take (Try.prog.cellsOf 26))=some (y4.1,y4.2):=a 4 _ rfl
  rw[AJ] at t4
  have t5:DataW.trod enc Try.prog W 0 (fun _=>true) true n 26 ((cs.drop 16).take (Try.prog.cellsOf 26))=some (y5.1,y5.2):=a 5 _ rfl
  rw[AJ] at t5
  have t6:DataW.trod enc Try.prog W 0 (fun _=>true) true n 62 ((cs.drop 22).take (Try.prog.cellsOf 62))=some (y6.1,y6.2):=a 6 _ rfl
  rw[H8] at t6
  have D:cs=cs.drop 0:=rfl
  have b:=A9 cs 0 1
  obtain ⟨q0,A⟩:∃q,q=(cs.drop 0).take 1:=⟨_,rfl⟩
  rw[<-A] at w b
  have I:=A9 cs 1 2
  obtain ⟨q1,B⟩:∃q,q=(cs.drop 1).take 2:=⟨_,rfl⟩
  rw[<-B] at t1 I
  have s:=A9 cs 3 1
  obtain ⟨q2,G⟩:∃q,q=(cs.drop 3).take 1:=⟨_,rfl⟩
  rw[<-G] at t2 s
  have u:=A9 cs 4 6
  obtain ⟨N,y⟩:∃q,q=(cs.drop 4).take 6:=⟨_,rfl⟩
  rw[<-y] at t3 u
  have r:=A9 cs 10 6
  obtain ⟨K,F⟩:∃q,q=(cs.drop 10).take 6:=⟨_,rfl⟩
  rw[<-F] at t4 r
  have C:=A9 cs 16 6
  obtain ⟨L,z⟩:∃q,q=(cs.drop 16).take 6:=⟨_,rfl⟩
  rw[<-z] at t5 C
  have J:=A9 cs 22 1
  obtain ⟨P,p⟩:∃q,q=(cs.drop 22).take 1:=⟨_,rfl⟩
  rw[<-p] at t6 J
  have l:cs.drop 23=[]:=by rw[<-c];exact zk
  simp only[Nat.reduceAdd] at b I s u r C J
  rw[zP] at b
  rw[I] at b
  rw[s] at b
  rw[u] at b
  rw[r] at b
  rw[C] at b
  rw[J] at b
  rw[l] at b
  clear D
  obtain ⟨v0,e0,T⟩:=E0 w
  obtain ⟨Z,e1,U⟩:=Dv t1
  obtain ⟨S,e2⟩:=Fk t2
  obtain ⟨v3,Q⟩:=AS n N _ _ t3 (fun k e=>i k (by
   rw[o.1,DataW.weights,qL]
   exact yC (j:=3) (t:=26) (d:=y3.1) rfl rfl _ e))
  obtain ⟨v4,e4⟩:=AS n K _ _ t4 (fun k e=>i k (by
   rw[o.1,DataW.weights,qL]
   exact yC (j:=4) (t:=26) (d:=y4.1) rfl rfl _ e))
  obtain ⟨v5,V⟩:=AS n L _ _ t5 (fun k e=>i k (by
   rw[o.1,DataW.weights,qL]
   exact yC (j:=5) (t:=26) (d:=y5.1) rfl rfl _ e))
  obtain ⟨R,f⟩:∃v,P=[v]:=zE.1 (by rw[p,yM,xh,c];rfl)
  rw[f] at t6
  obtain ⟨E,l6,X,Qf,M⟩:=DZ (Pr:=fun cs x=>Dm (Jt W) W cs x) qK KH P6 (by decide) (fun m _ cs d ps h i hl=>QC m cs d ps h i hl) t6 (fun k e=>i k (by
   rw[o.1,DataW.weights,qL]
   exact yC (j:=6) (t:=62) (d:=y6.1) rfl rfl _ e))
  rw[X] at f
  exact ⟨(⟨v0,Z,S,v3,v4,v5,l6⟩,E),T,U,N,K,L,by rw[b,e0,e1,e2,f];simp,Q,e4,V,Qf⟩
theorem P9(fuel:Nat)(cs:LV)(d:DataW H)(ps:List MemPlace)(h:DataW.trod enc Try.prog W 0 (fun _=>true) true fuel 68 cs=some (d,ps))(l:Wt 68 d)(i:cs.length=37):∃x:AG,CH (Jt W) W cs x:=by
 obtain ⟨P,n,a0,f,_,e,a⟩:=zC qN h
 simp only[zq] at f
 have e:P.length=10:=e
 match P,e with
 |[y0,y1,y2,y3,y4,y5,y6,y7,y8,y9],_=>
  have o:DataW.trod enc Try.prog W 0 (fun _=>true) true n 3 ((cs.drop 0).take (Try.prog.cellsOf 3))=some (y0.1,y0.2):=a 0 _ rfl
  rw[J1] at o
  have t1:DataW.trod enc Try.prog W 0 (fun _=>true) true n 9 ((cs.drop 1).take (Try.prog.cellsOf 9))=some (y1.1,y1.2):=a 1 _ rfl
  rw[CF] at t1
  have t2:DataW.trod enc Try.prog W 0 (fun _=>true) true n 23 ((cs.drop 2).take (Try.prog.cellsOf 23))=some (y2.1,y2.2):=a 2 _ rfl
  rw[BC] at t2
  have t3:DataW.trod enc Try.prog W 0 (fun _=>true) true n 23 ((cs.drop 4).take (Try.prog.cellsOf 23))=some (y3.1,y3.2):=a 3 _ rfl
  rw[BC] at t3
  have t4:DataW.trod enc Try.prog W 0 (fun _=>true) true n 3 ((cs.drop 6).take (Try.prog.cellsOf 3))=some (y4.1,y4.2):=a 4 _ rfl
  rw[J1] at t4
  have t5:DataW.trod enc Try.prog W 0 (fun _=>true) true n 26 ((cs.drop 7).take (Try.prog.cellsOf 26))=some (y5.1,y5.2):=a 5 _ rfl
  rw[AJ] at t5
  have t6:DataW.trod enc Try.prog W 0 (fun _=>true) true n 26 ((cs.drop 13).take (Try.prog.cellsOf 26))=some (y6.1,y6.2):=a 6 _ rfl
  rw[AJ] at t6
  have t7:DataW.trod enc Try.prog W 0 (fun _=>true) true n 26 ((cs.drop 19).take (Try.prog.cellsOf 26))=some (y7.1,y7.2):=a 7 _ rfl
  rw[AJ] at t7
  have s:DataW.trod enc Try.prog W 0 (fun _=>true) true n 26 ((cs.drop 25).take (Try.prog.cellsOf 26))=some (y8.1,y8.2):=a 8 _ rfl
  rw[AJ] at s
  have t9:DataW.trod enc Try.prog W 0 (fun _=>true) true n 26 ((cs.drop 31).take (Try.prog.cellsOf 26))=some (y9.1,y9.2):=a 9 _ rfl
  rw[AJ] at t9
  have z:cs=cs.drop 0:=rfl
  have b:=A9 cs 0 1
  obtain ⟨q0,I⟩:∃q,q=(cs.drop 0).take 1:=⟨_,rfl⟩
  rw[<-I] at o b
  have v:=A9 cs 1 1
  obtain ⟨q1,E⟩:∃q,q=(cs.drop 1).take 1:=⟨_,rfl⟩
  rw[<-E] at t1 v
  have F:=A9 cs 2 2
  obtain ⟨q2,u⟩:∃q,q=(cs.drop 2).take 2:=⟨_,rfl⟩
  rw[<-u] at t2 F
  have G:=A9 cs 4 2
  obtain ⟨q3,D⟩:∃q,q=(cs.drop 4).take 2:=⟨_,rfl⟩
  rw[<-D] at t3 G
  have m:=A9 cs 6 1
  obtain ⟨q4,L⟩:∃q,q=(cs.drop 6).take 1:=⟨_,rfl⟩
  rw[<-L] at t4 m
  have r:=A9 cs 7 6
  obtain ⟨Q,p⟩:∃q,q=(cs.drop 7).take 6:=⟨_,rfl⟩
  rw[<-p] at t5 r
  have A:=A9 cs 13 6
  obtain ⟨N,M⟩:∃q,q=(cs.drop 13).take 6:=⟨_,rfl⟩
  rw[<-M] at t6 A
  have K:=A9 cs 19 6
  obtain ⟨S,y⟩:∃q,q=(cs.drop 19).take 6:=⟨_,rfl⟩
  rw[<-y] at t7 K
  have C:=A9 cs 25 6
  obtain ⟨R,B⟩:∃q,q=(cs.drop 25).take 6:=⟨_,rfl⟩
  rw[<-B] at s C
  have w:=A9 cs 31 6
  obtain ⟨O,J⟩:∃q,q=(cs.drop 31).take 6:=⟨_,rfl⟩
  rw[<-J] at t9 w
  have g:cs.drop 37=[]:=by rw[<-i];exact zk
  simp only[Nat.reduceAdd] at b v F G m r A K C w
  rw[zP] at b
  rw[v] at b
  rw[F] at b
  rw[G] at b
  rw[m] at b
  rw[r] at b
  rw[A] at b
  rw[K] at b
  rw[C] at b
  rw[w] at b
  rw[g] at b
  clear z
  obtain ⟨v0,e0⟩:=Fk o
  obtain ⟨v1,e1,z1⟩:=E0 t1
  obtain ⟨V,e2,z2⟩:=Dv t2
  obtain ⟨v3,T,z3⟩:=Dv t3
  obtain ⟨v4,Z⟩:=Fk t4
  obtain ⟨v5,e5⟩:=AS n Q _ _ t5 (fun k c=>l k (by
   rw[f.1,DataW.weights,qN]
   exact yC (j:=5) (t:=26) (d:=y5.1) rfl rfl _ c))
  obtain ⟨X,Y⟩:=AS n N _ _ t6 (fun k c=>l k (by
   rw[f.1,DataW.weights,qN]
   exact yC (j:=6) (t:=26) (d:=y6.1) rfl rfl _ c))
  obtain ⟨v7,U⟩:=AS n S _ _ t7 (fun k c=>l k (by
   rw[f.1,DataW.weights,qN]
   exact yC (j:=7) (t:=26) (d:=y7.1) rfl rfl _ c))
  obtain ⟨v8,e8⟩:=AS n R _ _ s (fun k c=>l k (by
   rw[f.1,DataW.weights,qN]
   exact yC (j:=8) (t:=26) (d:=y8.1) rfl rfl _ c))
  obtain ⟨v9,e9⟩:=AS n O _ _ t9 (fun k c=>l k (by
   rw[f.1,DataW.weights,qN]
   exact yC (j:=9) (t:=26) (d:=y9.1) rfl rfl _ c))
  exact ⟨⟨v0,v1,V,v3,v4,v5,X,v7,v8,v9⟩,z1,z2,z3,Q,N,S,R,O,by rw[b,e0,e1,e2,T,Z];simp,e5,Y,U,e8,e9⟩
theorem QD(fuel:Nat)(cs:LV)(d:DataW H)(ps:List MemPlace)(h:DataW.trod enc Try.prog W 0 (fun _=>true) true fuel 70 cs=some (d,ps))(E:Wt 70 d)(f:cs.length=11):∃x:Ce,DF (Jt W) W cs x:=by
 obtain ⟨y,n,F,v,_,c,a⟩:=zC qO h
 simp only[zq] at v
 have c:y.length=4:=c
 match y,c with
 |[y0,y1,y2,y3],_=>
  have l:DataW.trod enc Try.prog W 0 (fun _=>true) true n 9 ((cs.drop 0).take (Try.prog.cellsOf 9))=some (y0.1,y0.2):=a 0 _ rfl
  rw[CF] at l
  have t1:DataW.trod enc Try.prog W 0 (fun _=>true) true n 23 ((cs.drop 1).take (Try.prog.cellsOf 23))=some (y1.1,y1.2):=a 1 _ rfl
  rw[BC] at t1
  have t2:DataW.trod enc Try.prog W 0 (fun _=>true) true n 23 ((cs.drop 3).take (Try.prog.cellsOf 23))=some (y2.1,y2.2):=a 2 _ rfl
  rw[BC] at t2
  have t3:DataW.trod enc Try.prog W 0 (fun _=>true) true n 26 ((cs.drop 5).take (Try.prog.cellsOf 26))=some (y3.1,y3.2):=a 3 _ rfl
  rw[AJ] at t3
  have r:cs=cs.drop 0:=rfl
  have b:=A9 cs 0 1
  obtain ⟨L,o⟩:∃q,q=(cs.drop 0).take 1:=⟨_,rfl⟩
  rw[<-o] at l b
  have u:=A9 cs 1 2
  obtain ⟨K,p⟩:∃q,q=(cs.drop 1).take 2:=⟨_,rfl⟩
  rw[<-p] at t1 u
  have g:=A9 cs 3 2
  obtain ⟨J,s⟩:∃q,q=(cs.drop 3).take 2:=⟨_,rfl⟩
  rw[<-s] at t2 g
  have i:=A9 cs 5 6
  obtain ⟨w,m⟩:∃q,q=(cs.drop 5).take 6:=⟨_,rfl⟩
  rw[<-m] at t3 i
  have e:cs.drop 11=[]:=by rw[<-f];exact zk
  simp only[Nat.reduceAdd] at b u g i
  rw[zP] at b
  rw[u] at b
  rw[g] at b
  rw[i] at b
  rw[e] at b
  clear r
  obtain ⟨v0,e0,C⟩:=E0 l
  obtain ⟨G,e1,D⟩:=Dv t1
  obtain ⟨B,e2,I⟩:=Dv t2
  obtain ⟨v3,A⟩:=AS n w _ _ t3 (fun k z=>E k (by
   rw[v.1,DataW.weights,qO]
   exact yC (j:=3) (t:=26) (d:=y3.1) rfl rfl _ z))
  exact ⟨⟨v0,G,B,v3⟩,C,D,I,w,by rw[b,e0,e1,e2];simp,A⟩
theorem O8{fuel:Nat}{cs:LV}{d:DataW H}{ps:List MemPlace}(h:DataW.trod enc Try.prog W 0 (fun _=>true) true fuel 35 cs=some (d,ps))(g:Wt 35 d)(f:cs.length=26):∃(L:Bh) (x:An),B8 (Jt W) W L cs x∧L.duties.n<=L.duties.c∧L.rights.n<=L.rights.c:=by
 obtain ⟨ys,n,ar,s,_,G,a⟩:=zC qB h
 simp only[zq] at s
 have G:ys.length=11:=G
 match ys,G with
 |[y0,y1,y2,y3,y4,y5,y6,y7,y8,y9,y10],_=>
  have t0:DataW.trod enc Try.prog W 0 (fun _=>true) true n 9 ((cs.drop 0).take (Try.prog.cellsOf 9))=some (y0.1,y0.2):=a 0 _ rfl
  rw[CF] at t0
  have t1:DataW.trod enc Try.prog W 0 (fun _=>true) true n 26 ((cs.drop 1).take (Try.prog.cellsOf 26))=some (y1.1,y1.2):=a 1 _ rfl
  rw[AJ] at t1
  have t2:DataW.trod enc Try.prog W 0 (fun _=>true) true n 26 ((cs.drop 7).take (Try.prog.cellsOf 26))=some (y2.1,y2.2):=a 2 _ rfl
  rw[AJ] at t2
  have t3:DataW.trod enc Try.prog W 0 (fun _=>true) true n 26 ((cs.drop 13).take (Try.prog.cellsOf 26))=some (y3.1,y3.2):=a 3 _ rfl
  rw[AJ] at t3
  have t4:DataW.trod enc Try.prog W 0 (fun _=>true) true n 27 ((cs.drop 19).take (Try.prog.cellsOf 27))=some (y4.1,y4.2):=a 4 _ rfl
  rw[Ht] at t4
  have t5:DataW.trod enc Try.prog W 0 (fun _=>true) true n 28 ((cs.drop 20).take (Try.prog.cellsOf 28))=some (y5.1,y5.2):=a 5 _ rfl
  rw[H6] at t5
  have t6:DataW.trod enc Try.prog W 0 (fun _=>true) true n 29 ((cs.drop 21).take (Try.prog.cellsOf 29))=some (y6.1,y6.2):=a 6 _ rfl
  rw[GH] at t6
  have t7:DataW.trod enc Try.prog W 0 (fun _=>true) true n 30 ((cs.drop 22).take (Try.prog.cellsOf 30))=some (y7.1,y7.2):=a 7 _ rfl
  rw[H7] at t7
  have t8:DataW.trod enc Try.prog W 0 (fun _=>true) true n 31 ((cs.drop 23).take (Try.prog.cellsOf 31))=some (y8.1,y8.2):=a 8 _ rfl
  rw[H9] at t8
  have t9:DataW.trod enc Try.prog W 0 (fun _=>true) true n 32 ((cs.drop 24).take (Try.prog.cellsOf 32))=some (y9.1,y9.2):=a 9 _ rfl
  rw[GI] at t9
  have w:DataW.trod enc Try.prog W 0 (fun _=>true) true n 33 ((cs.drop 25).take (Try.prog.cellsOf 33))=some (y10.1,y10.2):=a 10 _ rfl
  rw[Ha] at w
  have p:=A9 cs 0 1
  obtain ⟨q0,af⟩:∃q,q=(cs.drop 0).take 1:=⟨_,rfl⟩
  rw[<-af] at t0 p
  have s1:=A9 cs 1 6
  obtain ⟨q1,ae⟩:∃q,q=(cs.drop 1).take 6:=⟨_,rfl⟩
  rw[<-ae] at t1 s1
  have s2:=A9 cs 7 6
  obtain ⟨q2,ab⟩:∃q,q=(cs.drop 7).take 6:=⟨_,rfl⟩
  rw[<-ab] at t2 s2
  have s3:=A9 cs 13 6
  obtain ⟨q3,ad⟩:∃q,q=(cs.drop 13).take 6:=⟨_,rfl⟩
  rw[<-ad] at t3 s3
  have s4:=A9 cs 19 1
  obtain ⟨q4,a7⟩:∃q,q=(cs.drop 19).take 1:=⟨_,rfl⟩
  rw[<-a7] at t4 s4
  have s5:=A9 cs 20 1
  obtain ⟨q5,N⟩:∃q,q=(cs.drop 20).take 1:=⟨_,rfl⟩
  rw[<-N] at t5 s5
  have s6:=A9 cs 21 1
  obtain ⟨q6,a8⟩:∃q,q=(cs.drop 21).take 1:=⟨_,rfl⟩
  rw[<-a8] at t6 s6
  have s7:=A9 cs 22 1
  obtain ⟨q7,S⟩:∃q,q=(cs.drop 22).take 1:=⟨_,rfl⟩
  rw[<-S] at t7 s7
  have s8:=A9 cs 23 1
  obtain ⟨q8,X⟩:∃q,q=(cs.drop 23).take 1:=⟨_,rfl⟩
  rw[<-X] at t8 s8
  have s9:=A9 cs 24 1
  obtain ⟨q9,a2⟩:∃q,q=(cs.drop 24).take 1:=⟨_,rfl⟩
  rw[<-a2] at t9 s9
  have I:=A9 cs 25 1
  obtain ⟨ah,y⟩:∃q,q=(cs.drop 25).take 1:=⟨_,rfl⟩
  rw[<-y] at w I
  have O:cs.drop 26=[]:=by rw[<-f];exact zk
  simp only[Nat.reduceAdd] at p s1 s2 s3 s4 s5 s6 s7 s8 s9 I
  rw[zP] at p
  rw[s1] at p
  rw[s2] at p
  rw[s3] at p
  rw[s4] at p
  rw[s5] at p
  rw[s6] at p
  rw[s7] at p
  rw[s8] at p
  rw[s9] at p
  rw[I] at p
  rw[O] at p
  obtain ⟨v0,e0,z0⟩:=E0 t0
  obtain ⟨v1,e1⟩:=AS n q1 _ _ t1 (fun k l=>g k (by
   rw[s.1,DataW.weights,qB]
   exact yC (j:=1) (t:=26) (d:=y1.1) rfl rfl _ l))
  obtain ⟨v2,e2⟩:=AS n q2 _ _ t2 (fun k l=>g k (by
   rw[s.1,DataW.weights,qB]
   exact yC (j:=2) (t:=26) (d:=y2.1) rfl rfl _ l))
  obtain ⟨v3,e3⟩:=AS n q3 _ _ t3 (fun k l=>g k (by
   rw[s.1,DataW.weights,qB]
   exact yC (j:=3) (t:=26) (d:=y3.1) rfl rfl _ l))
  obtain ⟨ao,F⟩:∃v,q4=[v]:=zE.1 (by rw[a7,yM,xh,f];rfl)
  rw[F] at t4
  obtain ⟨Z,l4,e4,V,am⟩:=DZ (Pr:=fun cs x=>FP (Jt W) W cs x) qt L6 Qx (by decide) (fun m _ cs d ps h g hl=>Se m cs d ps h g hl) t4 (fun k l=>g k (by
   rw[s.1,DataW.weights,qB]
   exact yC (j:=4) (t:=27) (d:=y4.1) rfl rfl _ l))
  rw[e4] at F
  obtain ⟨au,J⟩:∃v,q5=[v]:=zE.1 (by rw[N,yM,xh,f];rfl)
  rw[J] at t5
  obtain ⟨Q,l5,e5,R,al⟩:=DZ (Pr:=fun cs x=>Dq (Jt W) W cs x) qu KF P4 (by decide) (fun m _ cs d ps h g hl=>QA m cs d ps h g hl) t5 (fun k l=>g k (by
   rw[s.1,DataW.weights,qB]
   exact yC (j:=5) (t:=28) (d:=y5.1) rfl rfl _ l))
  rw[e5] at J
  obtain ⟨aw,D⟩:∃v,q6=[v]:=zE.1 (by rw[a8,yM,xh,f];rfl)
  rw[D] at t6
  obtain ⟨a6,l6,e6,Qf,aj⟩:=DZ (Pr:=fun cs x=>CG (Jt W) W cs x) qv Jr O4 (by decide) (fun m _ cs d ps h g hl=>P8 m cs d ps h g hl) t6 (fun k l=>g k (by
   rw[s.1,DataW.weights,qB]
   exact yC (j:=6) (t:=29) (d:=y6.1) rfl rfl _ l))
  rw[e6] at D
  obtain ⟨aq,E⟩:∃v,q7=[v]:=zE.1 (by rw[S,yM,xh,f];rfl)
  rw[E] at t7
  obtain ⟨a1,l7,e7,U,ai⟩:=DZ (Pr:=fun cs x=>DE (Jt W) W cs x) qx KG P5 (by decide) (fun m _ cs d ps h g hl=>QB m cs d ps h g hl) t7 (fun k l=>g k (by
   rw[s.1,DataW.weights,qB]
   exact yC (j:=7) (t:=30) (d:=y7.1) rfl rfl _ l))
  rw[e7] at E
  obtain ⟨av,C⟩:∃v,q8=[v]:=zE.1 (by rw[X,yM,xh,f];rfl)
  rw[C] at t8
  obtain ⟨a0,P,e8,r,ak⟩:=DZ (Pr:=fun cs (x:B7 × Av)=>Gg (Jt W) W x.2 cs x.1) qy KI Qy (by decide) (fun m _ cs d ps h g hl=>Sf m cs d ps h g hl) t8 (fun k l=>g k (by
   rw[s.1,DataW.weights,qB]
   exact yC (j:=8) (t:=31) (d:=y8.1) rfl rfl _ l))
  rw[e8] at C
  obtain ⟨ap,A⟩:∃v,q9=[v]:=zE.1 (by rw[a2,yM,xh,f];rfl)
  rw[A] at t9
  obtain ⟨T,l9,e9,M,Y⟩:=DZ (Pr:=fun cs x=>CH (Jt W) W cs x) qz Js O5 (by decide) (fun m _ cs d ps h g hl=>P9 m cs d ps h g hl) t9 (fun k l=>g k (by
   rw[s.1,DataW.weights,qB]
   exact yC (j:=9) (t:=32) (d:=y9.1) rfl rfl _ l))
  rw[e9] at A
  obtain ⟨an,u⟩:∃v,ah=[v]:=zE.1 (by rw[y,yM,xh,f];rfl)
  rw[u] at w
  obtain ⟨z,ag,ac,K,B⟩:=DZ (Pr:=fun cs x=>DF (Jt W) W cs x) qA KJ P7 (by decide) (fun m _ cs d ps h g hl=>QD m cs d ps h g hl) w (fun k l=>g k (by
   rw[s.1,DataW.weights,qB]
   exact yC (j:=10) (t:=33) (d:=y10.1) rfl rfl _ l))
  rw[ac] at u
  refine ⟨⟨0,Z,Q,a6,a1,a0,T,z,P.map (·.2)⟩,⟨v0,v1,v2,v3,l4,l5,l6,l7,P.map (·.1),l9,ag⟩,⟨z0,⟨q1,q2,q3,?_,e1,e2,e3⟩,V,R,Qf,U,⟨?_,?_,fun i hi=>?_⟩,M,K⟩,B,Y⟩
  ·rw[p,e0,F,J,D,E,C,A,u];simp
  ·rw[yP];exact r.1
  ·rw[yP];exact r.2.1
  ·have aa:i < P.length:=by simpa using hi
   obtain ⟨b,o,c,g1,g2,g3,g4,g5⟩:=r.2.2 i aa
   refine ⟨b,o,c,g1,g2,g3,g4,?_⟩
   have e:A4 ⟨0,Z,Q,a6,a1,a0,T,z,P.map (·.2)⟩ i=(P[i]).2:=by
    unfold A4;simp[xe,aa]
   rw[e]
   simpa using g5
end
end Go.Proofs.Ytghepahgkcigpaa
namespace Go.Proofs
open Go.Shelf
def Try.laysM144_ren:Go.Shelf.Ren:=⟨fun|144=>70|143=>92|219=>98|217=>100|225=>101|224=>102|267=>103|266=>104|314=>105|n=>n,fun|9=>9|4=>4|3=>3|5=>5|46=>168|146=>170|51=>169|n=>n,fun|1=>0|n=>n⟩
theorem Try.laysM144:Go.Proofs.LaysM.n144 Try.prog Try.laysM144_ren:={
 mixed:=by kernel_rfl
 f143:=Try.func92.trans (congrArg some (by kernel_rfl))
 f144:=Try.func70.trans (congrArg some (by kernel_rfl))
 f217:=Try.func100.trans (congrArg some (by kernel_rfl))
 f219:=Try.func98.trans (congrArg some (by kernel_rfl))
 f224:=Try.func102.trans (congrArg some (by kernel_rfl))
 f225:=Try.func101.trans (congrArg some (by kernel_rfl))
 f266:=Try.func104.trans (congrArg some (by kernel_rfl))
 f267:=Try.func103.trans (congrArg some (by kernel_rfl))
 f314:=Try.func105.trans (congrArg some (by kernel_rfl))
 t3:=Try.underlying3
 a3:=Try.isAgg3
 z3:=Try.sizeOf3
 v3:=Try.zeroValue3
 t4:=Try.underlying4
 a4:=Try.isAgg4
 z4:=Try.sizeOf4
 v4:=Try.zeroValue4
 t5:=Try.underlying5
 a5:=Try.isAgg5
 z5:=Try.sizeOf5
 v5:=Try.zeroValue5
 t9:=Try.underlying9
 a9:=Try.isAgg9
 z9:=Try.sizeOf9
 v9:=Try.zeroValue9
 t46:=Try.underlying168
 a46:=Try.isAgg168
 z46:=Try.sizeOf168
 v46:=Try.zeroValue168
 t51:=Try.underlying169
 a51:=Try.isAgg169
 z51:=Try.sizeOf169
 v51:=Try.zeroValue169
 t146:=Try.underlying170
 a146:=Try.isAgg170
 z146:=Try.sizeOf170
 v146:=Try.zeroValue170
 g1:=by kernel_rfl
 i3:=by kernel_rfl
 i4:=by kernel_rfl
 i5:=by kernel_rfl
 i9:=by kernel_rfl
 i46:=by kernel_rfl
 i51:=by kernel_rfl
 i146:=by kernel_rfl
 m1:=by kernel_rfl
 s1_3:=fun w h=>Go.Proofs.cell_of_shapedOpen_int (zero:=#[.int .i64 0]) (t:=3) h (of_decide_eq_true (by kernel_rfl)) (by kernel_rfl) rfl (by kernel_rfl) (by kernel_rfl) Try.underlying3}
end Go.Proofs
