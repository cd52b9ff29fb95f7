/- Parts of the proof, in short words: Ka Shelf La Na Nb Oa Nc Nd Nf Ng Oe Oc Pe Yo Rq Sq Wa -/
import Derived.Test.YtghepahgkcigpaaProg
import Derived.WalkKit
import Derived.WalkSpells
import Derived.Below
import Derived.Deep.MidRow
import Derived.Lib.Hide
import Derived.Shelf.Small.Strs
import Derived.Shelf.Strings.Search1
import Derived.Shelf.Strings.Search2
import Derived.Shelf.Strings.Search3
import Derived.Shelf.LaysM
import Derived.Shelf.Strings.Shaped
import Derived.RangeFuncNested
import Derived.RangeFuncCalls
import Derived.RangeFuncLeaves
import Derived.Laws.EntriesVeiled
import Derived.WalkLawsBesides
import Derived.Deep.QuietTactic
import Derived.BigQuiet
import Derived.Lib.IndexAny
import Derived.OwnWalkIn
import Derived.TacticsInMore
import Derived.LoopNIn
import Derived.LoopIn
import Derived.Maps.Own
import Derived.Maps.Views
import Derived.OrdersHeld
import Derived.Deep.RegionHeld3
import Derived.Great.BuildSlice
import Derived.Orders
import Derived.OrdersIn
import Derived.TacticsIn
import Derived.ControlIn
import Derived.Deep.Slices
import Derived.Deep.Fields
import Derived.ChangeSame
import Derived.OpenShut
import Derived.SizedLaws
set_option maxRecDepth 100000
set_option maxHeartbeats 4000000
set_option linter.unusedSimpArgs false
set_option linter.defProp false
namespace Go.Proofs.Ytghepahgkcigpaa
open Go.RowKit
theorem ya{p:Prop}(h:p):Hid p:=h
theorem _root_.Go.RowKit.Hid.o{p:Prop}(h:Hid p):p:=h
def yc:=@Below.refl
def yd:=@Array.getElem?_eq_some_iff
def ye:=@Nat.le_refl
def yf:=@wpList_load_mid
def yg:=@List.append_assoc
def yh:=@Option.some.inj
def yi:=@List.length_append
def yj:=@Bool.eq_false_iff
def yk:=@Nat.lt_of_lt_of_le
def yl:=@List.getElem?_eq_getElem
def ym:=@Bool.and_eq_true
def yn:=@List.mem_append
def yo:=@Nat.le_trans
def yp:=@List.size_toArray
def yq:=@if_neg
def yr:=@List.take_succ_eq_append_getElem
def yt:=@of_decide_eq_true
def yu:=@if_pos
def yv:=@Nat.zero_le
def yw:=@List.getElem_mem
def yx:=@List.take_length
def yy:=@all_oneCell_toArray
def yz:=@congrArg
def yA:=@List.getElem?_eq_some_iff
def yB:=@DataW.weights_mem_each
def yC:=@List.length_cons
def yD:=@Nat.zero_add
def yE:=@List.nil_append
def yF:=@wpList_plain
def yG:=@List.append_nil
def yH:=@Array.getD_eq_getD_getElem?
def yI:=@List.length_map
def yJ:=@List.getElem?_append_right
def yK:=@List.length_nil
def yL:=@List.cons_append
def yM:=@List.all_eq_true
def yN:=@List.toList_toArray
def yO:=@List.mem_cons
def yP:=@List.length_take
def yQ:=@List.mem_flatMap
def yR:=@decide_eq_true_eq
def yS:=@yieldsIf_load_mid
def yT:=@Below.heap_alloc
def yU:=@Array.getElem?_modify
def yV:=@World.rangeAt_of_block
def yW:=@List.mem_range
def yX:=@List.length_eq_zero_iff
def yY:=@List.flatMap_cons
def yZ:=@Option.some.injEq
def z6:=@wpList_store_row
def z7:=@Iff.rfl
def z8:=@List.all_append
def za:=@callsIn_wide
def zb:=@List.all_cons
def zc:=@List.mem_iff_getElem
def ze:=@List.map_append
def zf:=@heap_setCell_other
def zg:=@List.mem_singleton
def zh:=@wp_store_mid
def zj:=@Bool.and_true
def zk:=@heap_setCell_same
def zl:=@List.drop_length
def zm:=@CallsIn.mono
def zn:=@List.all_nil
def zo:=@Prod.mk.injEq
def zp:=@List.getElem?_append_left
def zq:=@List.cons.injEq
def zs:=@List.not_mem_nil
def zt:=@Array.all_eq_true_iff_forall_mem
def zu:=@Bool.eq_iff_iff
def zv:=@World.size_alloc
def zw:=@List.ext_getElem
def zx:=@WideShapes.add_plain
def zy:=@List.length_zipIdx
def zA:=@StepsIn.trans
def zB:=@List.flatMap_nil
def zC:=@ByteArray.toList_eq
def zD:=@List.flatMap_append
def zE:=@Nat.le_succ
def zF:=@DataW.trod_struct
def zG:=@List.map_cons
def zH:=@decide_eq_false
def zI:=@results_none
def zJ:=@List.getElem?_take
def zK:=@Nat.lt_succ_self
def zL:=@List.length_eq_one_iff
def zM:=@Bool.and_assoc
def zN:=@List.take_zero
def zO:=@if_true
def zP:=@World.block_lt_of_cell?
def zQ:=@Array.replicate_succ
def zR:=@Array.replicate_zero
def zS:=@List.flatMap_map
def zT:=@List.map_flatMap
def zU:=@Nat.add_assoc
def zV:=@Nat.lt_or_ge
def zW:=@List.getD_eq_getElem?_getD
def zX:=@List.take_of_length_le
def zY:=@List.drop_zero
def zZ:=@List.all_eq_false
def xb:=@beq_eq_false_iff_ne
def xd:=@List.append_toArray
def xe:=@List.isPrefixOf_cons_cons
def xf:=@List.getElem_map
def xg:=@bodyPost_ret
def xh:=@List.map_nil
def xi:=@getD_set_ne
def xj:=@List.mem_cons_of_mem
def xk:=@List.forall_mem_cons
def xl:=@List.push_toArray
def xm:=@Array.getElem?_eq_none
def xo:=@wp_region_lit
def xp:=@List.length_drop
def xq:=@mem_ready
def xr:=@Ne.symm
def xt:=@Array.mem_of_getElem?
def xu:=@Oper.semAt_some
def xv:=@List.mem_of_getElem?
def xw:=@List.mem_of_mem_take
def xx:=@List.flatten_cons
def xy:=@List.cons.inj
def xz:=@decide_eq_false_iff_not
def xA:=@List.getElem_mapIdx
def xB:=@List.getElem_zipIdx
def xC:=@Option.bind_some
def xD:=@or_false
def xE:=@Bool.false_and
def xF:=@fenced_wide
def xG:=@Nat.add_zero
def xH:=@List.mem_map
def xI:=@Bool.false_eq_true
def xJ:=@List.take_append_drop
def xK:=@Option.map_some
def xL:=@run_loadVar_mid
def xM:=@List.append_inj
def xN:=@Value.slice.injEq
def xO:=@Result.andThen_ok
def xP:=@World.cell?_setCell_other
def xQ:=@wpList_nil
def xR:=@stepR_block
def xS:=@decide_eq_true
def xT:=@Bool.and_false
def xU:=@List.take_succ_cons
def xV:=@Value.pointer.injEq
def xW:=@Nat.add_sub_cancel_left
def xX:=@List.getElem?_cons_zero
def xY:=@Array.any_eq_true'
def xZ:=@List.zipWith_cons_cons
def qb:=@Sem.run_pure
def qd:=@List.zipIdx_cons
def qe:=@Lib.cell?_alloc_some
def qf:=@List.append_inj'
def qg:=@List.getElem_append_right
def qh:=@List.getElem_append_left
def qi:=@List.length_mapIdx
def qj:=@Nat.zero_mul
def qk:=@true_and
def ql:=@World.cell?_setCell_same
def qm:=@Sem.run_bind
def qn:=@Eq.trans
def qo:=@Nat.lt_succ_iff_lt_or_eq
def qp:=@Array.mk.injEq
def qq:=@bne_iff_ne
def qt:=@wp_append_own
def qu:=@Bool.false_or
def qv:=@Addr.mk.injEq
def qw:=@and_left_comm
def qx:=@Try.underlying109
def qy:=@Try.underlying122
def qz:=@Try.underlying127
def qD:=@Try.underlying23
def qE:=@Try.underlying24
def qF:=@Try.underlying26
def qG:=@Try.underlying27
def qH:=@Try.underlying28
def qI:=@Try.underlying29
def qJ:=@Try.underlying3
def qK:=@Try.underlying30
def qL:=@Try.underlying31
def qM:=@Try.underlying32
def qN:=@Try.underlying33
def qO:=@Try.underlying35
def qP:=@Try.underlying4
def qQ:=@Try.underlying49
def qS:=@Try.underlying51
def qT:=@Try.underlying55
def qU:=@Try.underlying57
def qV:=@Try.underlying59
def qW:=@Try.underlying62
def qX:=@Try.underlying64
def qY:=@Try.underlying66
def qZ:=@Try.underlying68
def j0:=@Try.underlying70
def j1:=@Try.underlying9
def j2:=@Try.underlying90
abbrev iV (n:Int):Value:=.int .i64 n
abbrev aV (b o:Nat):Addr:=⟨b,o,none⟩
abbrev pV (b o:Nat):Value:=.pointer (some ⟨b,o,none⟩)
abbrev LV:=List Value
abbrev LB:=List ByteArray
abbrev NP:=Nat->Prop
abbrev QT:=Exit->Act->World->Prop
abbrev _root_.Go.World.z (w:World):Nat:=w.heap.size
abbrev j3:List Value:=Value.string {data:=#[]}::Value.string {data:=#[]}::Value.int .i64 0::Value.int .i64 0::Value.int .i64 0::Value.int .i64 0::Value.string {data:=#[]}::Value.int .i64 0::Value.slice none 0 0::Value.int .i64 0::Value.int .i64 0::Value.int .i64 0::Value.string {data:=#[]}::Value.int .i64 0::Value.slice none 0 0::Value.int .i64 0::Value.int .i64 0::Value.int .i64 0::Value.string {data:=#[]}::Value.int .i64 0::Value.slice none 0 0::Value.int .i64 0::Value.int .i64 0::Value.int .i64 0::Value.string {data:=#[]}::Value.int .i64 0::Value.slice none 0 0::Value.int .i64 0::Value.int .i64 0::Value.int .i64 0::Value.string {data:=#[]}::Value.int .i64 0::Value.slice none 0 0::Value.int .i64 0::Value.int .i64 0::Value.int .i64 0::Value.string {data:=#[]}::Value.int .i64 0::Value.slice none 0 0::Value.int .i64 0::Value.int .i64 0::Value.int .i64 0::Value.string {data:=#[]}::Value.int .i64 0::Value.slice none 0 0::Value.int .i64 0::Value.int .i64 0::Value.int .i64 0::Value.string {data:=#[]}::Value.int .i64 0::Value.slice none 0 0:: []
abbrev j4:List Value:=Value.int .i64 0::Value.string {data:=#[]}::Value.string {data:=#[]}::Value.int .i64 0::Value.string {data:=#[]}::Value.int .i64 0::Value.int .i64 0::Value.int .i64 0::Value.int .i64 0::Value.int .i64 0::Value.string {data:=#[]}::Value.int .i64 0::Value.slice none 0 0::Value.int .i64 0::Value.int .i64 0::Value.int .i64 0::Value.string {data:=#[]}::Value.int .i64 0::Value.slice none 0 0::Value.int .i64 0::Value.int .i64 0::Value.int .i64 0::Value.string {data:=#[]}::Value.int .i64 0::Value.slice none 0 0::Value.int .i64 0::Value.int .i64 0::Value.int .i64 0::Value.string {data:=#[]}::Value.int .i64 0::Value.slice none 0 0::Value.int .i64 0::Value.int .i64 0::Value.int .i64 0::Value.string {data:=#[]}::Value.int .i64 0::Value.slice none 0 0:: []
abbrev j5:List Value:=Value.string {data:=#[]}::Value.string {data:=#[]}::Value.int .i64 0::Value.int .i64 0::Value.int .i64 0::Value.int .i64 0::Value.int .i64 0::Value.string {data:=#[]}::Value.int .i64 0::Value.slice none 0 0::Value.int .i64 0::Value.int .i64 0::Value.int .i64 0::Value.string {data:=#[]}::Value.int .i64 0::Value.slice none 0 0::Value.int .i64 0::Value.int .i64 0::Value.int .i64 0::Value.string {data:=#[]}::Value.int .i64 0::Value.slice none 0 0::Value.slice none 0 0:: []
abbrev j6:List Value:=Value.string {data:=#[]}::Value.string {data:=#[]}::Value.int .i64 0::Value.bool false::Value.int .i64 0::Value.int .i64 0::Value.int .i64 0::Value.string {data:=#[]}::Value.int .i64 0::Value.slice none 0 0::Value.string {data:=#[]}::Value.int .i64 0:: []
abbrev j7:List Value:=[Value.slice none 0 0,.slice none 0 0,.slice none 0 0,.slice none 0 0]
abbrev j8:List Value:=Value.string {data:=#[]}::Value.string {data:=#[]}::Value.int .i64 0::Value.string {data:=#[]}::Value.int .i64 0::Value.int .i64 0::Value.int .i64 0::Value.int .i64 0::Value.string {data:=#[]}::Value.int .i64 0::Value.slice none 0 0:: []
abbrev j9:Array Value:=#[.int .i64 0,.int .i64 0,.int .i64 0,.string {data:=#[]},.int .i64 0,.slice none 0 0]
abbrev ja:List Value:=[Value.int .i64 0,.int .i64 0,.int .i64 0,.string {data:=#[]},.int .i64 0,.slice none 0 0]
abbrev jb:Array Value:=#[.string {data:=#[]},.int .i64 0,.int .i64 0,.int .i64 0,.string {data:=#[]},.int .i64 0,.slice none 0 0,.int .i64 0,.int .i64 0,.int .i64 0,.string {data:=#[]},.int .i64 0,.slice none 0 0,.int .i64 0,.int .i64 0,.int .i64 0,.string {data:=#[]},.int .i64 0,.slice none 0 0,.slice none 0 0,.slice none 0 0,.slice none 0 0,.slice none 0 0,.slice none 0 0,.slice none 0 0,.slice none 0 0]
abbrev jc:Array Value:=#[.int .i64 0,.string {data:=#[]},.string {data:=#[]},.int .i64 0,.string {data:=#[]},.int .i64 0,.int .i64 0,.int .i64 0,.int .i64 0,.int .i64 0,.string {data:=#[]},.int .i64 0,.slice none 0 0,.int .i64 0,.int .i64 0,.int .i64 0,.string {data:=#[]},.int .i64 0,.slice none 0 0,.int .i64 0,.int .i64 0,.int .i64 0,.string {data:=#[]},.int .i64 0,.slice none 0 0,.int .i64 0,.int .i64 0,.int .i64 0,.string {data:=#[]},.int .i64 0,.slice none 0 0,.int .i64 0,.int .i64 0,.int .i64 0,.string {data:=#[]},.int .i64 0,.slice none 0 0]
abbrev jd:List Value:=[Value.string {data:=#[]},.int .i64 0]
abbrev je:Array Value:=#[.string {data:=#[]},.string {data:=#[]},.int .i64 0,.bool false,.int .i64 0,.int .i64 0,.int .i64 0,.string {data:=#[]},.int .i64 0,.slice none 0 0,.string {data:=#[]},.int .i64 0]
abbrev jf:Array Value:=#[.string {data:=#[]},.int .i64 0]
abbrev jg:Array Value:=#[.slice none 0 0]
end Go.Proofs.Ytghepahgkcigpaa
namespace Go.Proofs
open Go.Shelf
def Try.lays137_ren:Go.Shelf.Ren:=⟨fun|137=>97|217=>100|266=>104|n=>n,fun|9=>9|5=>5|3=>3|n=>n,fun|n=>n⟩
theorem Try.lays137:Go.Proofs.Lays.n137 Try.prog Try.lays137_ren:={
 mixed:=by kernel_rfl
 f137:=Try.func97.trans (congrArg some (by kernel_rfl))
 f217:=Try.func100.trans (congrArg some (by kernel_rfl))
 f266:=Try.func104.trans (congrArg some (by kernel_rfl))
 t3:=Try.underlying3
 a3:=Try.isAgg3
 z3:=Try.sizeOf3
 v3:=Try.zeroValue3
 t5:=Try.underlying5
 a5:=Try.isAgg5
 z5:=Try.sizeOf5
 v5:=Try.zeroValue5
 t9:=Try.underlying9
 a9:=Try.isAgg9
 z9:=Try.sizeOf9
 v9:=Try.zeroValue9}
open Go.RowKit in
theorem Try.strings_IndexByte(s:ByteArray)(c:Int)(w:World):
  Calls Try.prog 97 #[.string s,.int .u8 c] w fun e w'=>e=.returned (.int .i64 (Lib.indexByte s.data.toList c.toNat.toUInt8))∧w'=w:=Any.strings_IndexByte Try.lays137 s c w
def Try.lays144_ren:Go.Shelf.Ren:=⟨fun|144=>70|143=>92|219=>98|217=>100|225=>101|224=>102|267=>103|266=>104|314=>105|n=>n,fun|9=>9|4=>4|3=>3|5=>5|46=>168|146=>170|51=>169|n=>n,fun|1=>0|n=>n⟩
theorem Try.lays144:Go.Proofs.Lays.n144 Try.prog Try.lays144_ren:={
 mixed:=by kernel_rfl
 f143:=Try.func92.trans (congrArg some (by kernel_rfl))
 f144:=Try.func70.trans (congrArg some (by kernel_rfl))
 f217:=Try.func100.trans (congrArg some (by kernel_rfl))
 f219:=Try.func98.trans (congrArg some (by kernel_rfl))
 f224:=Try.func102.trans (congrArg some (by kernel_rfl))
 f225:=Try.func101.trans (congrArg some (by kernel_rfl))
 f266:=Try.func104.trans (congrArg some (by kernel_rfl))
 f267:=Try.func103.trans (congrArg some (by kernel_rfl))
 f314:=Try.func105.trans (congrArg some (by kernel_rfl))
 t3:=Try.underlying3
 a3:=Try.isAgg3
 z3:=Try.sizeOf3
 v3:=Try.zeroValue3
 t4:=Try.underlying4
 a4:=Try.isAgg4
 z4:=Try.sizeOf4
 v4:=Try.zeroValue4
 t5:=Try.underlying5
 a5:=Try.isAgg5
 z5:=Try.sizeOf5
 v5:=Try.zeroValue5
 t9:=Try.underlying9
 a9:=Try.isAgg9
 z9:=Try.sizeOf9
 v9:=Try.zeroValue9
 t46:=Try.underlying168
 a46:=Try.isAgg168
 z46:=Try.sizeOf168
 v46:=Try.zeroValue168
 t51:=Try.underlying169
 a51:=Try.isAgg169
 z51:=Try.sizeOf169
 v51:=Try.zeroValue169
 t146:=Try.underlying170
 a146:=Try.isAgg170
 z146:=Try.sizeOf170
 v146:=Try.zeroValue170
 g1:=by kernel_rfl}
open Go.RowKit Go.Lib in
theorem Try.strings_Contains(s sub:ByteArray)(m:Int)(w:World)(hs:s.size < 4294967281)(hm:w.cell? ⟨0,0,none⟩=some (.int .i64 m)):
  Calls Try.prog 70 #[.string s,.string sub] w fun e w'=>e=.returned (.bool (Lib.contains s.data.toList sub.data.toList))∧w'=w:=Any.strings_Contains Try.lays144 s sub m w hs hm
def Try.laysM144_ren:Go.Shelf.Ren:=⟨fun|144=>70|143=>92|219=>98|217=>100|225=>101|224=>102|267=>103|266=>104|314=>105|n=>n,fun|9=>9|4=>4|3=>3|5=>5|46=>168|146=>170|51=>169|n=>n,fun|1=>0|n=>n⟩
theorem Try.laysM144:Go.Proofs.LaysM.n144 Try.prog Try.laysM144_ren:={
 mixed:=by kernel_rfl
 f143:=Try.func92.trans (congrArg some (by kernel_rfl))
 f144:=Try.func70.trans (congrArg some (by kernel_rfl))
 f217:=Try.func100.trans (congrArg some (by kernel_rfl))
 f219:=Try.func98.trans (congrArg some (by kernel_rfl))
 f224:=Try.func102.trans (congrArg some (by kernel_rfl))
 f225:=Try.func101.trans (congrArg some (by kernel_rfl))
 f266:=Try.func104.trans (congrArg some (by kernel_rfl))
 f267:=Try.func103.trans (congrArg some (by kernel_rfl))
 f314:=Try.func105.trans (congrArg some (by kernel_rfl))
 t3:=Try.underlying3
 a3:=Try.isAgg3
 z3:=Try.sizeOf3
 v3:=Try.zeroValue3
 t4:=Try.underlying4
 a4:=Try.isAgg4
 z4:=Try.sizeOf4
 v4:=Try.zeroValue4
 t5:=Try.underlying5
 a5:=Try.isAgg5
 z5:=Try.sizeOf5
 v5:=Try.zeroValue5
 t9:=Try.underlying9
 a9:=Try.isAgg9
 z9:=Try.sizeOf9
 v9:=Try.zeroValue9
 t46:=Try.underlying168
 a46:=Try.isAgg168
 z46:=Try.sizeOf168
 v46:=Try.zeroValue168
 t51:=Try.underlying169
 a51:=Try.isAgg169
 z51:=Try.sizeOf169
 v51:=Try.zeroValue169
 t146:=Try.underlying170
 a146:=Try.isAgg170
 z146:=Try.sizeOf170
 v146:=Try.zeroValue170
 g1:=by kernel_rfl
 i3:=by kernel_rfl
 i4:=by kernel_rfl
 i5:=by kernel_rfl
 i9:=by kernel_rfl
 i46:=by kernel_rfl
 i51:=by kernel_rfl
 i146:=by kernel_rfl
 m1:=by kernel_rfl
 s1_3:=fun w h=>Go.Proofs.cell_of_shapedOpen_int (zero:=#[.int .i64 0]) (t:=3) h (of_decide_eq_true (by kernel_rfl)) (by kernel_rfl) rfl (by kernel_rfl) (by kernel_rfl) Try.underlying3}
end Go.Proofs
namespace Go.Proofs.Ytghepahgkcigpaa
open Go.RowKit
variable{F:Fence}{n:Nat}{P:Program}
def Qz(P:Program)(l:Nat)(R:Ending->World->Prop):Exit->Act->World->Prop
 |.normal,_,w=>∃v w',(Instr.endRound l none).run P w=.ok v w'∧R (.returned v) w'
 |.ret,_,w=>∃v w',(Instr.endRound l (some .ret)).run P w=.ok v w'∧R (.returned v) w'
 |.exit id,_,w=>∃v w',(Instr.endRound l (some (.exit id))).run P w=.ok v w'∧R (.returned v) w'
 |.goto t,_,w=>∃v w',(Instr.endRound l (some (.goto t))).run P w=.ok v w'∧R (.returned v) w'
 |.panic chain,a,w=>a.defers=[]∧R (.panicked chain) w
 |.outgrown,_,_=>False
theorem Ko{l:Nat}{f:FuncId}{fn:Func}(B:P.funcs[f]?=some fn){tmps:Array Value}{assign body:Code}{w:World}{R:Ending->World->Prop}(H:F.fn f)
 (h:assign.wpIn (F.inRound l) n P (Exit.then (fun y D=>∃z,(Instr.beginRound l).run P D=.ok () z∧body.wpIn (F.inRound l) n P (Qz P l R) y z) (fun _ _ _=>False))
   {tmps:=tmps,defers:=[]} w):
  RoundIn F n P l f tmps assign body w R:=by
 refine ⟨H,fun c cs J=>?_⟩
 let b:Frame:={(default:Frame) with fn:=f,kind:=.normal,roundOf:=some l}
 have E:Frame.round l f tmps assign body .normal=b.atR {tmps:=tmps,defers:=[]} [.code assign,.beginRound,.code body]:=by
  simp[Frame.round,Frame.atR,b]
 have i:(F.inRound l).room ((c::cs).length+1+n):=J
 have j:(F.inRound l).fn b.fn:=H
 obtain ⟨e,y,D,s,g⟩:=h b [.beginRound,.code body] (c::cs) rfl j i
 rw[<-E] at g
 cases e with
 |normal=>
  obtain ⟨z,C,p⟩:=s
  have x:StepsIn (Machine.fenced P (F.inRound l)) P (lone (b.atR y [.beginRound,.code body]) (c::cs) D) (lone (b.atR y [.code body]) (c::cs) z):=
   .one (fenced_calm (fr:=b.atR y [.beginRound,.code body]) j i rfl) (stepR_beginRound rfl C)
  obtain ⟨I,r,G,k,a⟩:=p b [] (c::cs) rfl j i
  cases I with
  |normal=>
   obtain ⟨v,q,d,m⟩:=k
   exact ⟨.returned v,q,m,(zA g x).trans (zA a (.one (fenced_calm (fr:=b.atR r []) j i rfl) (stepR_round_end rfl rfl d)))⟩
  |ret=>
   obtain ⟨v,q,d,m⟩:=k
   obtain ⟨u,hs⟩:=a.2 rfl
   exact ⟨.returned v,q,m,(zA g x).trans (zA hs (.one (fenced_calm (fr:=b.atR r (.code .ret::u)) j i rfl) (stepR_round_ret rfl rfl d)))⟩
  |exit id=>
   obtain ⟨v,q,d,m⟩:=k
   obtain ⟨u,A,hs⟩:=a.2 rfl rfl
   exact ⟨.returned v,q,m,(zA g x).trans (zA hs (.one (fenced_calm (fr:=b.atR r (.code (.exit id)::u)) j i rfl) (stepR_round_exit rfl rfl A d)))⟩
  |goto t=>
   obtain ⟨v,q,d,m⟩:=k
   obtain ⟨u,A,hs⟩:=a.2 rfl rfl
   exact ⟨.returned v,q,m,(zA g x).trans (zA hs (.one (fenced_calm (fr:=b.atR r (.code (.goto t)::u)) j i rfl) (stepR_round_goto rfl rfl A d)))⟩
  |panic chain=>
   obtain ⟨hd,m⟩:=k
   obtain ⟨o,hs⟩:=a
   have hl:Frame.leaving P {b.atR r o with mode:=.panicking chain} G (.panicked chain):=⟨rfl,hd,fn,B⟩
   exact ⟨.panicked chain,G,m,(zA g x).trans (zA hs (.one (fenced_leaving (fr:={b.atR r o with mode:=.panicking chain}) j i hl) (step_leave_panicked hl)))⟩
  |outgrown=>exact k.elim
 |exit id=>exact s.elim
 |goto t=>exact s.elim
 |ret=>exact s.elim
 |panic chain=>exact s.elim
 |outgrown=>exact s.elim
def Cd(O:NP)(W W':World):Prop:=W.heap.size<=W'.heap.size∧∀b,O b->W'.heap[b]?=W.heap[b]?
theorem Cd.refl(O:NP)(W:World):Cd O W W:=⟨ye _,fun _ _=>rfl⟩
theorem Cd.trans{O:NP}{A B C:World}(h:Cd O A B)(k:Cd O B C):Cd O A C:=⟨yo h.1 k.1,fun b hb=>(k.2 b hb).trans (h.2 b hb)⟩
theorem Cd.sub{O a:NP}{A B:World}(h:Cd O A B)(hs:∀b,a b->O b):Cd a A B:=⟨h.1,fun b hb=>h.2 b (hs b hb)⟩
def Ep{β:Type}(J:β->NP->World->Prop):Prop:=
 ∀s O W a W',J s O W->W.heap.size<=W'.heap.size->W'.os=W.os->W'.tape=W.tape->W'.output=W.output->(∀b,¬ O b->b < W.heap.size->W'.heap[b]?=W.heap[b]?)->(∀b,a b->O b∨W.heap.size<=b)->J s a W'
def VV(F:Fence)(n:Nat)(P:Program)(g:Nat)(lb:Array Value)(Hd:World->Prop)(xs:List (Array Value))(own:Option (List PanicEntry)):Prop:=
 ∀(l:Nat) (J:Nat->NP->World->Prop) (Jx:NP->World->Prop) (Jp:List PanicEntry->NP->World->Prop) (W:World),
  Ep J->Ep (fun (_:Unit)=>Jx)->(∀a,Ep (fun (_:Unit)=>Jp a))->(∀k O W,J k O W->Hd W)->(∀O W,Jx O W->Hd W)->(∀a,own=some a->∀O W,J xs.length O W->Jp a O W)->
  (∀k (c:k < xs.length) O W1,J k O W1->W.heap.size<=W1.heap.size->(∀b,O b->W.heap.size<=b∧b < W1.heap.size)->YieldAt F (n - 1) P l xs[k] W1 fun e W'=>
   (e=.returned (.bool true)∧J (k+1) O W'∧Cd O W1 W')∨(e=.returned (.bool false)∧Jx O W'∧Cd O W1 W')∨(∃a,e=.panicked a∧Jp a O W'∧Cd O W1 W'))->
  J 0 (fun _=>False) W->
  CallsIn F n P g (#[.func (.yield l) #[] #[]]++lb) W fun e W'=>
   ((∃v,e=.returned v)∧((own=none∧∃O,J xs.length O W')∨∃O,Jx O W'))∨∃a,e=.panicked a∧∃O,Jp a O W'
def I3(f:FuncId)(P:Program)(c:Code)(Q:QT)(a:Act)(w:World):Prop:=
 ∀(b:Frame) (k:List Item) (cs:List Frame),b.roundOf=none->b.fn=f->
  ∃e d w',Q e d w'∧ArrivesIn (Machine.fenced P Fence.wide) P (lone (b.atR a (.code c::k)) cs w) b k cs e d w'
section
variable{f:FuncId}{Q:QT}{a:Act}{w:World}
theorem V3{c:Code}(h:c.wpIn Fence.wide n P Q a w):I3 f P c Q a w:=fun b k cs d _=>h b k cs d trivial (room_wide _)
theorem Af{c:Code}(h:c.wp P Q a w):I3 f P c Q a w:=V3 (n:=0) (wpIn_wide.2 h)
theorem Aq{x y:Code}(h:I3 f P x (Exit.then (I3 f P y Q) Q) a w):I3 f P (Code.seq x y) Q a w:=by
 intro b k cs i hb
 have h0:(lone (b.atR a (.code (.seq x y)::k)) cs w).fenced P Fence.wide:=xF _ _
 obtain ⟨e,m,j,g,c⟩:=h b (.code y::k) cs i hb
 cases e with
 |normal=>
  obtain ⟨p,o,q,n,d⟩:=g b k cs i hb
  exact ⟨p,o,q,n,.of_steps (.head h0 stepR_seq c) d⟩
 |exit id=>exact ⟨_,m,j,g,.of_steps (.one h0 stepR_seq) (.pass (x:=.code y) rfl (fun _ _=>.inl (by simp)) c)⟩
 |goto l=>exact ⟨_,m,j,g,.of_steps (.one h0 stepR_seq) (.pass (x:=.code y) rfl (fun _ _=>.inl (by simp)) c)⟩
 |ret=>exact ⟨_,m,j,g,.of_steps (.one h0 stepR_seq) (.pass (x:=.code y) rfl (fun _ _=>.inl (by simp)) c)⟩
 |panic ch=>exact ⟨_,m,j,g,.of_steps (.one h0 stepR_seq) (.pass (x:=.code y) rfl (fun _ _=>.inl (by simp)) c)⟩
 |outgrown=>exact ⟨_,m,j,g,.of_steps (.one h0 stepR_seq) (.pass (x:=.code y) rfl (fun _ _=>.inl (by simp)) c)⟩
theorem F9{id:Nat}{c:Code}(h:I3 f P c (Exit.inBlock id Q) a w):I3 f P (Code.block id c) Q a w:=by
 intro b k cs q hb
 have h0:(lone (b.atR a (.code (.block id c)::k)) cs w).fenced P Fence.wide:=xF _ _
 obtain ⟨e,o,n,i,d⟩:=h b (.inBlock id::k) cs q hb
 cases e with
 |normal=>exact ⟨.normal,o,n,i,.head h0 xR (zA d (.one (xF _ _) stepR_inBlock))⟩
 |exit id'=>
  by_cases g:id'=id
  ·simp only[Exit.inBlock,g,zO] at i
   exact ⟨.normal,o,n,i,.head h0 xR (d.1 k (by simp[exitTo,g]))⟩
  ·simp only[Exit.inBlock,g,if_false] at i
   have this:(id==id')=false:=by simp;exact fun h=>g h.symm
   have p:exitTo id' (.inBlock id::k)=exitTo id' k:=by simp[exitTo,this]
   exact ⟨.exit id',o,n,i,fun k' j=>.head h0 xR (d.1 k' (by rw[p];exact j)),
    fun m j=>let ⟨k₁,h1,h2⟩:=d.2 m (by rw[p];exact j);⟨k₁,h1,.head h0 xR h2⟩⟩
 |goto l=>
  have p:gotoIn l (.inBlock id::k)=gotoIn l k:=by simp[gotoIn]
  exact ⟨_,o,n,i,fun k' j=>.head h0 xR (d.1 k' (by rw[p];exact j)),
   fun m j=>let ⟨k₁,h1,h2⟩:=d.2 m (by rw[p];exact j);⟨k₁,h1,.head h0 xR h2⟩⟩
 |ret=>exact ⟨_,o,n,i,.of_steps (.one h0 xR) d⟩
 |panic ch=>exact ⟨_,o,n,i,.of_steps (.one h0 xR) d⟩
 |outgrown=>exact ⟨_,o,n,i,.of_steps (.one h0 xR) d⟩
end
def Wy(O:NP)(J:Nat->NP->World->Prop)(Jx:Code->NP->World->Prop)(Jp:List PanicEntry->NP->World->Prop)(k:Nat)(W:World):Exit->Act->World->Prop
 |.normal,_,W'=>Cd O W W'∧J (k+1) O W'
 |.ret,_,W'=>Cd O W W'∧Jx .ret O W'
 |.exit id,_,W'=>Cd O W W'∧Jx (.exit id) O W'
 |.goto t,_,W'=>Cd O W W'∧Jx (.goto t) O W'
 |.panic ch,a,W'=>a.defers=[]∧Cd O W W'∧Jp ch O W'
 |.outgrown,_,_=>False
theorem Ep.put{β:Type}{J:β->NP->World->Prop}(h:Ep J){s:β}{O:NP}{W:World}{l:Nat}(hl:O l)(o:Obj)(hs:J s O W):J s O (W.putObj l o):=
 h s O W O _ hs (by simp) rfl rfl rfl (fun b hb _=>World.putObj_heap_other (fun e=>hb (e▸hl))) (fun b hb=>.inl hb)
theorem LA{f:FuncId}{g:Operand}{ps:Array Tmp}{assign body:Code}{Q:QT}{a:Act}{w:World}
 (h:∃(l:Nat) (m:List Deferred) (C:World) (d:Deferred) (s:World) (F:FuncId) (args:Array Value) (A:World),
   (Instr.enterLoop f a.tmps ps assign body none).run P w=.ok (l,m) C∧
   (resolve a.eval (rangeCall g l) 0).run P C=.ok d s∧
   (invoke d.target d.args).run P s=.ok (.enter F args) A∧
   CallsIn Fence.wide (n - 1) P F args A (rangePost Fence.wide n P l Q {a with defers:=m++a.defers})):
  I3 f P (Code.rangeFunc g ps assign body) Q a w:=by
 intro b k cs u hb
 obtain ⟨l,m,C,d,s,F,args,A,I,y,z,O,r⟩:=h
 rw[<-u,<-hb] at I
 have i:=stepR_rangeFunc (P:=P) (b:=b) (a:=a) (k:=k) (cs:=cs) (w:=w) I y z
 obtain ⟨e,K,fr,B,j,L,o⟩:=r (b.atR {a with defers:=m++a.defers} (.inRangeFunc l::k)::cs) (room_wide _)
 cases e with
 |outgrown=>
  obtain ⟨M,N,D⟩:=B
  exact ⟨.outgrown,M,N,D,.inr (Outgrown.of_steps (.one i) j)⟩
 |returned v=>
  obtain ⟨q,G,x,H⟩:=B
  have p:StepsIn (Machine.fenced P Fence.wide) P (lone (b.atR a (.code (.rangeFunc g ps assign body)::k)) cs w) (lone (b.atR {a with defers:=m++a.defers} ((q.map Item.code).toList++k)) cs G):=by
   refine .head (xF _ _) i (zA j (.head (xF _ _) ?_ (.one (xF _ _) (stepR_endRangeFunc x))))
   rw[<-finish_atR_inRangeFunc l v];exact step_leave_returned o
  cases q with
  |none=>exact ⟨.normal,_,G,H,p⟩
  |some c=>
   obtain ⟨e',E,J,D,t⟩:=H b k cs u trivial (room_wide _)
   exact ⟨e',E,J,D,.of_steps p t⟩
 |panicked chain=>
  refine ⟨.panic chain,_,K,B,.inRangeFunc l::k,.head (xF _ _) i (zA j (.one (xF _ _) ?_))⟩
  rw[<-Frame.raise_atR];exact step_leave_panicked o
theorem EF{f:FuncId}{fn:Func}(hf:P.funcs[f]?=some fn){g:Operand}{ps:Array Tmp}{assign body:Code}{Q:QT}{a:Act}{w:World}
 {gf:Nat}{lb:Array Value}(hg:a.eval g=.func (.func gf) #[] lb)(eg:∀args w,(callFunc gf args).run P w=.ok (.enter gf args) w)
 {Hd:World->Prop}{xs:List (Array Value)}{own:Option (List PanicEntry)}(a1:VV Fence.wide (n - 1) P gf lb Hd xs own)(ag:∀x∈xs,x.size=ps.size)
 (J:Nat->NP->World->Prop)(Jx:Code->NP->World->Prop)(Jp:List PanicEntry->NP->World->Prop)(A:Nat->Act->NP->World->Prop)
 (hJ:Ep J)(F:∀c,Ep (fun (_:Unit)=>Jx c))(ah:∀u,Ep (fun (_:Unit)=>Jp u))(hA:∀a,Ep (fun k=>A k a))(ai:∀k O W,J k O W->Hd W)(a2:∀c O W,Jx c O W->Hd W)(a8:∀u,own=some u->∀O W,J xs.length O W->Jp u O W)
 (h0:J 0 (fun _=>False) w)
 (G:∀k (hk:k < xs.length) O W l,J k O W->O l->(∃r,W.heap[l]?=some (.loop r))->(∀b,O b->b < W.heap.size)->assign.wpIn (Fence.wide.inRound l) (n - 1 - 1) P (Exit.then (fun U W₁=>Cd O W W₁∧A k U O W₁) (fun _ _ _=>False))
   {tmps:=(ps.zip xs[k]).foldl (fun t (p,v)=>t.setIfInBounds p v) a.tmps,defers:=[]} W)
 (X:∀k (_:k < xs.length) O W l U,O l->(∃r,W.heap[l]?=some (.loop r))->(∀b,O b->b < W.heap.size)->A k U O W->body.wpIn (Fence.wide.inRound l) (n - 1 - 1) P (Wy O J Jx Jp k W) U W)
 (T:own=none->∀D O W,w.heap.size<=D->O D->J xs.length O W->W.heap[D]?=some (.deferred (some []))->Q .normal {a with defers:={target:=.collected D,args:=#[]}::a.defers} W)
 (Y:∀D c O W,w.heap.size<=D->O D->Jx c O W->W.heap[D]?=some (.deferred (some []))->c.wpIn Fence.wide n P Q {a with defers:={target:=.collected D,args:=#[]}::a.defers} W)
 (K:∀D u O W,w.heap.size<=D->O D->Jp u O W->W.heap[D]?=some (.deferred (some []))->Q (.panic u) {a with defers:={target:=.collected D,args:=#[]}::a.defers} W):
  I3 f P (Code.rangeFunc g ps assign body) Q a w:=by
 refine LA (n:=n) ?_
 obtain ⟨j,o⟩:∃j:LoopState->Option Code->Loop,j=fun st pe=>{state:=st,pending:=pe,fn:=f,tmps:=a.tmps,params:=ps,assign,body,defers:=w.heap.size}:=⟨_,rfl⟩
 obtain ⟨y,E⟩:∃y,(w.alloc (.deferred (some []))).alloc (.loop (j .ready none))=y:=⟨_,rfl⟩
 have ak:y.heap.size=w.heap.size+2:=by rw[<-E];simp
 have ab:y.heap[w.heap.size+1]?=some (.loop (j .ready none)):=by
  rw[<-E];have:=World.alloc_heap_new (w.alloc (.deferred (some []))) (.loop (j .ready none));rwa [zv] at this
 have ac:y.heap[w.heap.size]?=some (.deferred (some [])):=by
  rw[<-E];exact (yT _ _ _ (by simp)).trans (World.alloc_heap_new w _)
 have ad:J 0 (fun b=>False∨b=w.heap.size∨b=w.heap.size+1) y:=by
  rw[<-E]
  refine hJ 0 _ w _ _ h0 (by simp;omega) rfl rfl rfl (fun b _ hb=>?_) (fun b hb=>.inr ?_)
  ·rw[yT _ _ _ (by simp;omega),yT _ _ _ hb]
  ·rcases hb with hb|rfl|rfl
   ·exact hb.elim
   ·exact ye _
   ·omega
 refine ⟨w.heap.size+1,[{target:=.collected w.heap.size,args:=#[]}],y,{target:=.fn (.func gf) lb,args:=#[.func (.yield (w.heap.size+1)) #[] #[]]},y,gf,
  #[.func (.yield (w.heap.size+1)) #[] #[]]++lb,y,?_,?_,?_,?_⟩
 ·rw[<-E,o];exact run_enterLoop_outer _ _ _ _ _
 ·simp only[resolve,hg]
  simp[go_sem]
 ·simp[invoke,go_sem,eg]
 generalize hD:w.heap.size=D at*
 generalize hl:D+1=l at*
 have aj:D < l:=by omega
 refine (a1 l
  (fun k O W=>J k (fun b=>O b∨b=D∨b=l) W∧W.heap[l]?=some (.loop (j .ready none))∧W.heap[D]?=some (.deferred (some []))∧(∀b,O b->y.heap.size<=b)∧y.heap.size<=W.heap.size)
  (fun O W=>∃c,Jx c (fun b=>O b∨b=D∨b=l) W∧W.heap[l]?=some (.loop (j .done (some c)))∧W.heap[D]?=some (.deferred (some []))∧(∀b,O b->y.heap.size<=b)∧y.heap.size<=W.heap.size)
  (fun u O W=>Jp u (fun b=>O b∨b=D∨b=l) W∧W.heap[D]?=some (.deferred (some []))∧(∀b,O b->y.heap.size<=b)∧y.heap.size<=W.heap.size) y ?_ ?_ ?_ ?_ ?_ ?_ ?_ ⟨ad,ab,ac,fun b hb=>hb.elim,ye _⟩).mono ?_
 ·rintro k O W O' W' ⟨h1,h2,h3,h4,h5⟩ Z V ht hu i R
  refine ⟨hJ k _ W _ W' h1 Z V ht hu (fun b hb B=>i b (fun h=>hb (.inl h)) B) (fun b hb=>?_),?_,?_,fun b hb=>?_,by omega⟩
  ·rcases hb with hb|hb
   ·rcases R b hb with h|h
    ·exact .inl (.inl h)
    ·exact .inr h
   ·exact .inl (.inr hb)
  ·exact (i l (fun h=>by have:=h4 l h;omega) (yd.1 h2).1).trans h2
  ·exact (i D (fun h=>by have:=h4 D h;omega) (yd.1 h3).1).trans h3
  ·rcases R b hb with h|h
   ·exact h4 b h
   ·omega
 ·rintro _ O W O' W' ⟨c,h1,h2,h3,h4,h5⟩ Z V ht hu i R
  refine ⟨c,F c () _ W _ W' h1 Z V ht hu (fun b hb B=>i b (fun h=>hb (.inl h)) B) (fun b hb=>?_),?_,?_,fun b hb=>?_,by omega⟩
  ·rcases hb with hb|hb
   ·rcases R b hb with h|h
    ·exact .inl (.inl h)
    ·exact .inr h
   ·exact .inl (.inr hb)
  ·exact (i l (fun h=>by have:=h4 l h;omega) (yd.1 h2).1).trans h2
  ·exact (i D (fun h=>by have:=h4 D h;omega) (yd.1 h3).1).trans h3
  ·rcases R b hb with h|h
   ·exact h4 b h
   ·omega
 ·rintro u _ O W O' W' ⟨h1,h3,h4,h5⟩ Z V ht hu i R
  refine ⟨ah u () _ W _ W' h1 Z V ht hu (fun b hb B=>i b (fun h=>hb (.inl h)) B) (fun b hb=>?_),?_,fun b hb=>?_,by omega⟩
  ·rcases hb with hb|hb
   ·rcases R b hb with h|h
    ·exact .inl (.inl h)
    ·exact .inr h
   ·exact .inl (.inr hb)
  ·exact (i D (fun h=>by have:=h4 D h;omega) (yd.1 h3).1).trans h3
  ·rcases R b hb with h|h
   ·exact h4 b h
   ·omega
 ·exact fun k O W h=>ai k _ W h.1
 ·exact fun O W h=>h.elim fun c h=>a2 c _ W h.1
 ·exact fun u he O W h=>⟨a8 u he _ W h.1,h.2.2.1,h.2.2.2.1,h.2.2.2.2⟩
 ·
  rintro k hk O W ⟨h1,h2,h3,h4,h5⟩ Z ae
  have hy:=run_yield (P:=P) (args:=xs[k]) h2 (by rw[o];exact ag _ (yw hk))
  rw[o] at hy
  have a6:∀b,(O b∨b=D∨b=l)->b < W.heap.size:=fun b hb=>by
   rcases hb with hb|hb|hb
   ·exact (ae b hb).2
   ·rw[hb];exact (yd.1 h3).1
   ·rw[hb];exact (yd.1 h2).1
  refine ⟨f,_,assign,body,hy,Ko hf trivial (wpIn_mono (G k hk _ W l h1 (.inr (.inr rfl)) ⟨_,h2⟩ a6) ?_)⟩
  clear hy
  rintro e U Wa C
  cases e with
  |normal=>
   obtain ⟨hs,af⟩:=C
   have I:=(hs.2 l (.inr (.inr rfl))).trans h2
   have L:=(hs.2 D (.inr (.inl rfl))).trans h3
   have B:=(yd.1 I).1
   refine ⟨_,run_beginRound I (by rw[o]),?_⟩
   have a0:(Wa.putObj l (.loop {j .ready none with state:=.busy})).heap[l]?=some (.loop {j .ready none with state:=.busy}):=World.putObj_heap_same B
   have a7:(Wa.putObj l (.loop {j .ready none with state:=.busy})).heap[D]?=some (.deferred (some [])):=(World.putObj_heap_other (by omega)).trans L
   refine wpIn_mono (X k hk _ _ l U (.inr (.inr rfl)) ⟨_,a0⟩ (fun b hb=>by have:=a6 b hb;have:=hs.1;simp;omega) ((hA U).put (.inr (.inr rfl)) _ af)) ?_
   have N:∀(d:Option Code) (z:World),Cd (fun b=>O b∨b=D∨b=l) (Wa.putObj l (.loop {j .ready none with state:=.busy})) z->
     (Instr.endRound l d).run P z=.ok (.bool d.isNone) (z.putObj l (.loop (j (if d.isNone then .ready else .done) d)))∧
     (z.putObj l (.loop (j (if d.isNone then .ready else .done) d))).heap[l]?=some (.loop (j (if d.isNone then .ready else .done) d))∧
     (z.putObj l (.loop (j (if d.isNone then .ready else .done) d))).heap[D]?=some (.deferred (some []))∧
     y.heap.size<=(z.putObj l (.loop (j (if d.isNone then .ready else .done) d))).heap.size∧
     Cd O W (z.putObj l (.loop (j (if d.isNone then .ready else .done) d))):=fun d z m=>by
    have aa:=(m.2 l (.inr (.inr rfl))).trans a0
    have H:=run_endRound (P:=P) d aa
    rw[o] at H ⊢
    have z1:=hs.1
    have z3:Wa.heap.size<=z.heap.size:=by have:=m.1;simpa using this
    refine ⟨H,World.putObj_heap_same (yd.1 aa).1,(World.putObj_heap_other (by omega)).trans ((m.2 D (.inr (.inl rfl))).trans a7),by simp;omega,by simp;omega,fun b hb=>?_⟩
    have M:b≠l:=fun e=>by have:=h4 b hb;subst e;omega
    rw[World.putObj_heap_other M,m.2 b (.inl hb),World.putObj_heap_other M,hs.2 b (.inl hb)]
   rintro e a3 z C
   cases e with
   |normal=>
    obtain ⟨m,q⟩:=C
    obtain ⟨H,g1,I,L,S⟩:=N none z m
    exact ⟨_,_,H,.inl ⟨rfl,⟨hJ.put (.inr (.inr rfl)) _ q,g1,I,h4,L⟩,S⟩⟩
   |ret=>
    obtain ⟨m,q⟩:=C
    obtain ⟨H,g1,I,L,S⟩:=N (some .ret) z m
    exact ⟨_,_,H,.inr (.inl ⟨rfl,⟨.ret,(F .ret).put (s:=()) (.inr (.inr rfl)) _ q,g1,I,h4,L⟩,S⟩)⟩
   |exit id=>
    obtain ⟨m,q⟩:=C
    obtain ⟨H,g1,I,L,S⟩:=N (some (.exit id)) z m
    exact ⟨_,_,H,.inr (.inl ⟨rfl,⟨.exit id,(F (.exit id)).put (s:=()) (.inr (.inr rfl)) _ q,g1,I,h4,L⟩,S⟩)⟩
   |goto t=>
    obtain ⟨m,q⟩:=C
    obtain ⟨H,g1,I,L,S⟩:=N (some (.goto t)) z m
    exact ⟨_,_,H,.inr (.inl ⟨rfl,⟨.goto t,(F (.goto t)).put (s:=()) (.inr (.inr rfl)) _ q,g1,I,h4,L⟩,S⟩)⟩
   |panic u=>
    obtain ⟨hd,m,q⟩:=C
    have z1:=hs.1
    have z3:Wa.heap.size<=z.heap.size:=by have:=m.1;simpa using this
    refine ⟨hd,.inr (.inr ⟨u,rfl,⟨q,(m.2 D (.inr (.inl rfl))).trans a7,h4,by omega⟩,by omega,fun b hb=>?_⟩)⟩
    have M:b≠l:=fun e=>by have:=h4 b hb;subst e;omega
    rw[m.2 b (.inl hb),World.putObj_heap_other M,hs.2 b (.inl hb)]
   |outgrown=>exact C.elim
  |exit id=>exact C.elim
  |goto t=>exact C.elim
  |ret=>exact C.elim
  |panic u=>exact C.elim
  |outgrown=>exact C.elim
 ·
  rintro e W2 (⟨⟨v,rfl⟩,(⟨V,O,h1,h2,h3,h4,h5⟩|⟨O,c,h1,h2,h3,h4,h5⟩)⟩|⟨u,rfl,O,h1,h2,h4,h5⟩)
  ·exact ⟨none,_,by have:=run_endLoop (P:=P) h2 (by rw[o];simp);rw[o] at this;exact this,T V D _ _ (ye _) (.inr (.inl rfl)) (hJ.put (.inr (.inr rfl)) _ h1) ((World.putObj_heap_other (by omega)).trans h3)⟩
  ·exact ⟨some c,_,by have:=run_endLoop (P:=P) h2 (by rw[o];simp);rw[o] at this;exact this,Y D c _ _ (ye _) (.inr (.inl rfl)) ((F c).put (s:=()) (.inr (.inr rfl)) _ h1) ((World.putObj_heap_other (by omega)).trans h3)⟩
  ·exact K D u _ W2 (ye _) (.inr (.inl rfl)) h1 h2
theorem CM{f:FuncId}{fn:Func}{c:Code}{args:Array Value}{w:World}{R:Ending->World->Prop}(r:P.funcs[f]?=some fn)(hb:fn.body=some c)
 (h:I3 f P c (bodyPostM Fence.wide n P fn R) {tmps:=args++Array.replicate (fn.ntmps - args.size) undef,defers:=[]} w):Calls P f args w R:=by
 refine (za (n:=n)).1 ⟨trivial,fun cs s=>?_⟩
 let b:Frame:={(default:Frame) with fn:=f,kind:=.normal,roundOf:=none}
 have k:Frame.enter P f args .normal=
   b.atR {tmps:=args++Array.replicate (fn.ntmps - args.size) undef,defers:=[]} [.code c]:=by
  simp[Frame.enter,Frame.atR,r,hb,b]
 obtain ⟨e,p,w',o,a⟩:=h b [] cs rfl rfl
 rw[<-k] at a
 cases e with
 |normal=>
  obtain ⟨e',d,i,q,hs,g,hl⟩:=leaves_stepsInM p.defers .returning w' {b.atR p [] with mode:=.returning} cs rfl rfl rfl r rfl trivial s o
  exact ⟨e',d,i,q,ComesIn.of_steps (zA a (.one (xF _ _) (stepR_end rfl))) hs,g,hl⟩
 |ret=>
  obtain ⟨j,m⟩:=a.1 rfl
  obtain ⟨e',d,i,q,hs,g,hl⟩:=leaves_stepsInM p.defers .returning w' {b.atR p j with mode:=.returning} cs rfl rfl rfl r rfl trivial s o
  exact ⟨e',d,i,q,ComesIn.of_steps m hs,g,hl⟩
 |panic chain=>
  obtain ⟨j,m⟩:=a
  obtain ⟨e',d,i,q,hs,g,hl⟩:=leaves_stepsInM p.defers (.panicking chain) w' {b.atR p j with mode:=.panicking chain} cs rfl rfl rfl r rfl trivial s o
  exact ⟨e',d,i,q,ComesIn.of_steps m hs,g,hl⟩
 |exit id=>exact o.elim
 |goto l=>exact o.elim
 |outgrown=>exact ⟨.outgrown,w',b,o,a.resolve_left (by simp[b]),rfl,trivial⟩
end Go.Proofs.Ytghepahgkcigpaa
namespace Go.Proofs.Ytghepahgkcigpaa
open Go.RowKit
inductive Ex where
 |mk (op n u:Int) (rn:ByteArray) (ri:Int) (args:List Ex)
namespace Ex
def op:Ex->Int|.mk o _ _ _ _ _=>o
def n:Ex->Int|.mk _ n _ _ _ _=>n
def u:Ex->Int|.mk _ _ u _ _ _=>u
def rn:Ex->ByteArray|.mk _ _ _ r _ _=>r
def ri:Ex->Int|.mk _ _ _ _ i _=>i
def args:Ex->List Ex|.mk _ _ _ _ _ l=>l
end Ex
mutual
def Bh(N:NP)(w:World):Ex->LV->Prop
 |.mk op n u rn ri args,cs=>∃a cap,cs=[.int .i64 op,.int .i64 n,.int .i64 u,.string rn,.int .i64 ri,.slice a args.length cap]∧args.length<=140737488355328∧rn.size<=maxLen∧E6 N w a 0 args
def E6(N:NP)(w:World)(a:Option Addr):Nat->List Ex->Prop
 |_,[]=>True
 |i,e::r=>(∃b o cs,a=some ⟨b,o,none⟩∧N b∧w.rangeAt b (o+i*6) cs∧Bh N w e cs)∧E6 N w a (i+1) r
end
def TD(N:NP)(w:World)(v:Value)(l:List Ex):Prop:=∃a cap,v=.slice a l.length cap∧l.length<=140737488355328∧E6 N w a 0 l
theorem E7{N:NP}{w:World}{a:Option Addr}:∀ {l:List Ex} {k:Nat},E6 N w a k l->∀i (h:i < l.length),∃b o cs,a=some ⟨b,o,none⟩∧N b∧w.rangeAt b (o+(k+i)*6) cs∧Bh N w l[i] cs
 |[],_,_,i,h=>by simp at h
 |e::r,k,hr,i,h=>by
  rw[E6] at hr
  cases i with
  |zero=>exact hr.1
  |succ i=>
   obtain ⟨b,o,cs,h1,h2,h3,h4⟩:=E7 hr.2 i (by simpa using h)
   exact ⟨b,o,cs,h1,h2,by rw[show k+(i+1)=k+1+i by omega];exact h3,by simpa using h4⟩
theorem A1{w w':World}{b o:Nat}{cs:LV}(h:w.rangeAt b o cs)(hb:w'.heap[b]?=w.heap[b]?):w'.rangeAt b o cs:=fun j v a=>by
 have:=h j v a
 unfold World.cell? at this ⊢
 rw[hb];exact this
mutual
theorem Bh.same{N N':NP}{w w':World}(c:∀b,N b->N' b)(hb:∀b,N b->w'.heap[b]?=w.heap[b]?):∀ {e:Ex} {cs:LV},Bh N w e cs->Bh N' w' e cs
 |.mk _ _ _ _ _ args,_,h=>by
  rw[Bh] at h ⊢
  obtain ⟨a,cap,h1,h2,h3,h4⟩:=h
  exact ⟨a,cap,h1,h2,h3,E6.same c hb h4⟩
theorem E6.same{N N':NP}{w w':World}{a:Option Addr}(c:∀b,N b->N' b)(hb:∀b,N b->w'.heap[b]?=w.heap[b]?):∀ {l:List Ex} {k:Nat},E6 N w a k l->E6 N' w' a k l
 |[],_,h=>by rw[E6];trivial
 |e::r,k,h=>by
  rw[E6] at h ⊢
  obtain ⟨⟨b,o,cs,h1,h2,h3,h4⟩,h5⟩:=h
  exact ⟨⟨b,o,cs,h1,c b h2,A1 h3 (hb b h2),Bh.same c hb h4⟩,E6.same c hb h5⟩
end
theorem TD.same{N N':NP}{w w':World}{v:Value}{l:List Ex}(c:∀b,N b->N' b)(hb:∀b,N b->w'.heap[b]?=w.heap[b]?)(h:TD N w v l):TD N' w' v l:=by
 obtain ⟨a,cap,h1,h2,h3⟩:=h
 exact ⟨a,cap,h1,h2,E6.same c hb h3⟩
mutual
def AV:Ex->Nat
 |.mk _ _ _ _ _ args=>BK args
def BK:List Ex->Nat
 |[]=>0
 |e::r=>max (1+AV e) (BK r)
end
mutual
theorem I4{P:Ex->Prop}(h:∀op n u rn ri args,(∀e∈args,P e)->P (.mk op n u rn ri args)):∀e,P e
 |.mk op n u rn ri args=>h op n u rn ri args (RY h args)
theorem RY{P:Ex->Prop}(h:∀op n u rn ri args,(∀e∈args,P e)->P (.mk op n u rn ri args)):∀l:List Ex,∀e∈l,P e
 |[]=>fun _ a=>by simp at a
 |x::r=>fun e a=>(yO.1 a).elim (fun q=>q▸I4 h x) (RY h r e)
end
theorem KK:∀(l:List Ex) (e:Ex),BK (l++[e])=max (BK l) (1+AV e)
 |[],e=>by simp[BK]
 |x::r,e=>by
  rw[yL,BK,BK,KK r e,Nat.max_assoc]
theorem IJ{l:List Ex}{i:Nat}(h:i < l.length):BK (l.take (i+1))=max (BK (l.take i)) (1+AV l[i]):=by
 rw[yr h,KK]
theorem Jb:∀(l:List Ex) (i:Nat),BK (l.take i)<=BK l
 |[],i=>by simp
 |x::r,0=>by simp[BK]
 |x::r,i+1=>by
  rw[xU,BK,BK]
  have:=Jb r i
  omega
theorem LC{l:List Ex}{i:Nat}(h:i < l.length):1+AV l[i]<=BK l:=by
 have h1:=IJ h
 have h2:=Jb l (i+1)
 omega
theorem Bh.cells{N:NP}{w:World}{e:Ex}{cs:LV}(h:Bh N w e cs):∃a cap,cs=[.int .i64 e.op,.int .i64 e.n,.int .i64 e.u,.string e.rn,.int .i64 e.ri,.slice a e.args.length cap]∧e.args.length<=140737488355328∧e.rn.size<=maxLen∧E6 N w a 0 e.args:=by
 cases e
 rw[Bh] at h
 exact h
theorem Bh.mk'{N:NP}{w:World}{e:Ex}{a:Option Addr}{cap:Nat}(h1:e.args.length<=140737488355328)(h2:e.rn.size<=maxLen)(h3:E6 N w a 0 e.args):
  Bh N w e [.int .i64 e.op,.int .i64 e.n,.int .i64 e.u,.string e.rn,.int .i64 e.ri,.slice a e.args.length cap]:=by
 cases e
 rw[Bh]
 exact ⟨a,cap,rfl,h1,h2,h3⟩
theorem BZ{w:World}{b o:Nat}{x0 x1 x2 x3 x4 x5:Value}(h:w.rangeAt b o [x0,x1,x2,x3,x4,x5]):w.cell? ⟨b,o,none⟩=some x0∧w.cell? ⟨b,o+1,none⟩=some x1∧w.cell? ⟨b,o+2,none⟩=some x2∧w.cell? ⟨b,o+3,none⟩=some x3∧w.cell? ⟨b,o+4,none⟩=some x4∧w.cell? ⟨b,o+5,none⟩=some x5:=
 ⟨h 0 _ rfl,h 1 _ rfl,h 2 _ rfl,h 3 _ rfl,h 4 _ rfl,h 5 _ rfl⟩
theorem DC{N:NP}{B:Nat}{w w':World}(hN:∀b,N b->b < B)(hb:Below B w w'):∀b,N b->w'.heap[b]?=w.heap[b]?:=fun b h=>hb.block b (hN b h)
theorem GJ{k:IntKind}{a b:Int}(h:a=b):Ending.returned (.int k a)=.returned (.int k b):=by rw[h]
theorem Au{a b:Bool}(h:a=b):Ending.returned (.bool a)=.returned (.bool b):=by rw[h]
theorem Df(e:Int)(w:World):Calls Try.prog 50 #[.bool true,.int .i64 e] w fun x w'=>x=.returned (.tuple #[])∧w'=w:=by
 go_enter Try.func50,Try.ntmps50
 go_wp2
 go_end0
 exact ⟨rfl,rfl⟩
theorem D7(e:Int)(w:World):Calls Try.prog 50 #[.bool false,.int .i64 e] w fun x w'=>x=.panicked [{v:=.iface 38 (.int .i64 e),recovered:=false}]∧w'=w:=by
 go_enter Try.func50,Try.ntmps50
 go_wp2
 exact ⟨rfl,rfl,rfl⟩
theorem SB:∀(e:Ex) {N:NP} {w:World} {cs:LV},Bh N w e cs->(∀b,N b->b < w.heap.size)->AV e<=1000000->
  Calls Try.prog 68 #[.agg cs.toArray] w fun x w'=>x=.returned (.int .i64 (AV e))∧Below w.heap.size w w':=by
 refine I4 fun op Q u rn ri args ih=>?_
 intro N w cs h hN hd
 rw[Bh] at h
 obtain ⟨a,cap,rfl,hl,V,j⟩:=h
 have r:=ya j
 have y:=ya hN
 have P:=ya ih
 have K:AV (.mk op Q u rn ri args)=BK args:=rfl
 rw[K] at hd ⊢
 have G:=ya hd
 generalize I:args.length=m at hl ⊢
 have L:=ya I
 clear j hN ih K hd I
 go_enter Try.func68,Try.ntmps68
 go_wp2
 go_loopw [2,8] (fun M C wr=>∃i:Nat,M=iV (BK (args.take i))∧C=iV i∧i<=m∧Hid (Below w.heap.size w wr)) (fun _ C _=>m - (intOf C).toNat)
 case atStart=>exact ⟨0,by simp[BK],rfl,yv _,ya ((yc _ _).alloc (ye _) _)⟩
 case round=>
  obtain ⟨i,rfl,rfl,hi,l⟩:=hrel
  by_cases z:i < m
  ·have g:i < args.length:=by rw[L.o];exact z
   obtain ⟨b,o,cs,rfl,D,t,d⟩:=E7 r.o i g
   have v:=Bh.same (fun b h=>h) (DC y.o l.o) d
   have c:=A1 t (l.o.block b (y.o b D))
   obtain ⟨U,q,rfl,_⟩:=d.cells
   rw[yD] at c
   obtain ⟨c0,c1,c2,Y,Z,X⟩:=BZ c
   have p:=LC g
   have f:=IJ g
   have E:=Jb args (i+1)
   have J:=ya (fun (W:World) (H:Below w.heap.size w W)=>P.o args[i] (yw g) (Bh.same (fun b h=>h) (DC y.o H) d) (fun b h=>yk (y.o b h) H.size) (by have:=G.o;omega))
   generalize args[i]=x at*
   have k:=ya (l.o.alloc l.o.size (.cells #[iV x.op,iV x.n,iV x.u,.string x.rn,iV x.ri,.slice U x.args.length q] 26))
   have T:(i:Int) < (m:Int):=by omega
   generalize hdx:AV x=R at p f J ⊢
   have O:=ya hdx
   generalize F:BK (args.take i)=S at f ⊢
   have B:=ya f
   have h1:(R:Int)<=1000000:=by have:=G.o;omega
   have h2:(S:Int)<=1000000:=by have:=G.o;omega
   clear d v t c hdx F p f E
   go_wp2_with fail
   refine (J.o _ k.o).mono ?_
   rintro e w2 ⟨rfl,s⟩
   have A:=ya (k.o.trans (s.mono k.o.size))
   clear s
   go_wp2
   refine ⟨⟨i+1,?_,by go_num,by omega,A⟩,by simp[intOf];omega⟩
   rw[B.o]
   congr 1
   first|(split<;>omega)|omega
  ·obtain rfl:i=m:=by omega
   go_wp2
   go_ret
   refine ⟨GJ (by rw[<-L.o,yx]),l.o⟩
def CP(c:UInt8):Bool:=(97<=c.toNat&&c.toNat<=122)||(65<=c.toNat&&c.toNat<=90)
def I5(c:UInt8):Bool:=48<=c.toNat&&c.toNat<=57
def LD(c:UInt8):Bool:=c.toNat==32||c.toNat==9||c.toNat==10||c.toNat==13
def EK(c:UInt8):Bool:=CP c||I5 c||c.toNat==95
def TE:List UInt8:=[123,125,40,41,59,44,61,58,46,60,62,33,43,45,42,47]
def RZ(c:UInt8):Bool:=TE.contains c
def Db(c:UInt8):Int:=if CP c then 2 else if I5 c then 3 else if c.toNat==95 then 5 else if LD c then 1 else if RZ c then 4 else 0
theorem Od{c:UInt8}(h:(97<=c.toNat∧c.toNat<=122)∨(65<=c.toNat∧c.toNat<=90)):Db c=2:=by
 have:CP c=true:=by simp[CP];omega
 simp[Db,this]
theorem nl{c:UInt8}(h:¬ ((97<=c.toNat∧c.toNat<=122)∨(65<=c.toNat∧c.toNat<=90))):CP c=false:=by
 rw[yj];simp[CP];omega
theorem P3{c:UInt8}(h:48<=c.toNat∧c.toNat<=57):Db c=3:=by
 have:I5 c=true:=by simp[I5];omega
 simp[Db,this,nl (c:=c) (by omega)]
theorem nd{c:UInt8}(h:¬ (48<=c.toNat∧c.toNat<=57)):I5 c=false:=by
 rw[yj];simp[I5];omega
theorem QA{c:UInt8}(h:c.toNat=95):Db c=5:=by
 simp[Db,nd (c:=c) (by omega),nl (c:=c) (by omega),h]
theorem P4{c:UInt8}(h:c.toNat=32∨c.toNat=9∨c.toNat=10∨c.toNat=13):Db c=1:=by
 have:LD c=true:=by simp[LD];omega
 have h2:(c.toNat==95)=false:=by rw[yj];simp;omega
 simp[Db,nd (c:=c) (by omega),nl (c:=c) (by omega),h2,this]
theorem QB{c:UInt8}(h:¬ ((97<=c.toNat∧c.toNat<=122)∨(65<=c.toNat∧c.toNat<=90)))(h1:¬ (48<=c.toNat∧c.toNat<=57))(h2:¬ c.toNat=95)
 (h3:¬ (c.toNat=32∨c.toNat=9∨c.toNat=10∨c.toNat=13)):Db c=if RZ c then 4 else 0:=by
 have h4:LD c=false:=by rw[yj];simp[LD];omega
 simp[Db,nd h1,nl h,h2,h4]
theorem TF(c:UInt8):(decide (0<=Lib.indexByte TE ((c.toNat:Int)).toNat.toUInt8))=RZ c:=by
 have:((c.toNat:Int)).toNat.toUInt8=c:=by simp
 rw[this];exact (Lib.contains_iff_indexByte TE c).symm
theorem QC(c:UInt8)(w:World):Calls Try.prog 97 #[.string {data:=#[123,125,40,41,59,44,61,58,46,60,62,33,43,45,42,47]},.int .u8 (c.toNat:Int)] w fun e w'=>∃n:Int,e=.returned (.int .i64 n)∧decide (0<=n)=RZ c∧w=w':=
 (Try.strings_IndexByte _ _ w).mono fun _ _ h=>⟨_,h.1,TF c,h.2.symm⟩
theorem Jc(c:UInt8)(w:World):
  Calls Try.prog 91 #[.int .u8 (c.toNat:Int)] w fun e w'=>e=.returned (.int .i64 (Db c))∧w=w':=by
 generalize hN:Db c=N
 have d:=ya hN;clear hN
 go_enter Try.func91,Try.ntmps91
 go_wp2_with (first|(go_at_call 97;refine (QC _ _).mono ?_;rintro e w' ⟨n,rfl,a,rfl⟩;have b:=ya a;clear a))
 all_goals
  go_ret
  refine ⟨GJ ?_,rfl⟩
  rw[<-d.o]
  try simp only[beq_iff_eq,xb,ne_eq] at*
  first
  |exact (Od (by omega)).symm
  |exact (P3 (by omega)).symm
  |exact (QA (by omega)).symm
  |exact (P4 (by omega)).symm
  |(rw[QB (by omega) (by omega) (by omega) (by omega),<-b.o];simp[*])
def E2:List UInt8->Bool
 |[]=>false
 |c::r=>decide ((c::r).length<=32)&&CP c&&(c::r).all EK
theorem SD(s:ByteArray)(k:Nat)(h:k < s.size):s.data.toList.take (k+1)=s.data.toList.take k++[s[k]]:=by
 rw[yr (by simpa using h)];rfl
theorem GX(s:ByteArray):s.data.toList.length=s.size:=by simp
theorem IK{s:ByteArray}(h:0 < s.size):E2 s.data.toList=(decide (s.size<=32)&&CP (s[0])&&s.data.toList.all EK):=by
 obtain ⟨⟨l⟩⟩:=s
 cases l with
 |nil=>simp[ByteArray.size] at h
 |cons c r=>rfl
theorem KL{s:ByteArray}(h:¬ 0 < s.size):E2 s.data.toList=false:=by
 obtain ⟨⟨l⟩⟩:=s
 cases l with
 |nil=>rfl
 |cons c r=>simp[ByteArray.size] at h
theorem LF{s:ByteArray}(h0:0 < s.size)(h:¬ s.size<=32):E2 s.data.toList=false:=by rw[IK h0];simp[h]
theorem KM{s:ByteArray}(h0:0 < s.size)(h:CP s[0]=false):E2 s.data.toList=false:=by rw[IK h0];simp[h]
theorem LG{s:ByteArray}{k:Nat}(a:k < s.size)(h:EK s[k]=false):E2 s.data.toList=false:=by
 rw[IK (by omega)]
 have:s.data.toList.all EK=false:=by
  rw[zZ]
  exact ⟨s[k],by rw[Array.mem_toList_iff];exact Array.getElem_mem _,by simp[h]⟩
 rw[this];simp
theorem Nb{s:ByteArray}(h0:0 < s.size)(a:s.size<=32)(h:CP s[0]=true)(b:(s.data.toList.take s.size).all EK=true):E2 s.data.toList=true:=by
 rw[zX (by simp)] at b
 rw[IK h0,b,h];simp[a]
theorem P5{s:ByteArray}{k:Nat}(b:k < s.size)(a:(s.data.toList.take k).all EK=true)(h:EK s[k]=true):(s.data.toList.take (k+1)).all EK=true:=by
 rw[SD s k b,z8,a];simp[h]
theorem TG(P:UInt8->Bool)(h:(List.range 256).all (fun n=>P n.toUInt8)=true)(c:UInt8):P c=true:=by
 have:=yM.1 h c.toNat (by rw[yW];exact c.toNat_lt)
 simpa using this
theorem S0(c:UInt8):(Db c==2)=CP c:=by
 have:=TG (fun c=>(Db c==2)==CP c) (by decide+kernel) c
 simpa using this
theorem Lm(c:UInt8):(Db c==2||Db c==3||Db c==5)=EK c:=by
 have:=TG (fun c=>(Db c==2||Db c==3||Db c==5)==EK c) (by decide+kernel) c
 simpa using this
theorem SE{s:ByteArray}(h:0 < s.size):s.toList.isEmpty=false:=by
 rw[zC,List.isEmpty_eq_false_iff];intro e;have:=GX s;rw[e] at this;simp at this;omega
theorem TH{s:ByteArray}(h:¬ 0 < s.size):s.toList.isEmpty=true:=by
 rw[zC,List.isEmpty_iff,<-yX,GX];omega
theorem TI(c:UInt8)(n:Int)(h:Db c=n)(w:World):
  Calls Try.prog 91 #[.int .u8 (c.toNat:Int)] w fun e w'=>e=.returned (.int .i64 n)∧w=w':=by
 rw[<-h];exact Jc c w
theorem SG{c:UInt8}(h:CP c=true):Db c=2:=by
 have:=S0 c
 rw[h] at this
 simpa using this
theorem LH(c:UInt8)(h:CP c=false)(w:World):
  Calls Try.prog 91 #[.int .u8 (c.toNat:Int)] w fun e w'=>∃n:Int,(n !=2)=true∧e=.returned (.int .i64 n)∧w=w':=
 (Jc c w).mono fun _ _ a=>⟨_,by have:=S0 c;rw[h] at this;simpa using this,a⟩
theorem QD(c:UInt8)(h:EK c=true)(w:World):
  Calls Try.prog 91 #[.int .u8 (c.toNat:Int)] w fun e w'=>∃n:Int,(n=2∨n=3∨n=5)∧e=.returned (.int .i64 n)∧w=w':=
 (Jc c w).mono fun _ _ a=>⟨_,by have:=Lm c;rw[h] at this;simpa[or_assoc] using this,a⟩
theorem Oe(c:UInt8)(h:EK c=false)(w:World):
  Calls Try.prog 91 #[.int .u8 (c.toNat:Int)] w fun e w'=>∃n:Int,(n !=2)=true∧(n !=3)=true∧(n !=5)=true∧e=.returned (.int .i64 n)∧w=w':=
 (Jc c w).mono fun _ _ a=>⟨_,by have:=Lm c;rw[h] at this;simp at this;simp[this],by have:=Lm c;rw[h] at this;simp at this;simp[this],by have:=Lm c;rw[h] at this;simp at this;simp[this],a⟩
theorem TJ(s:ByteArray)(w:World)(hs:s.size<=maxLen):
  Calls Try.prog 69 #[.string s] w fun e w'=>e=.returned (.bool (E2 s.data.toList))∧w=w':=by
 unfold maxLen at hs
 generalize hN:E2 s.data.toList=N
 have b:=ya hN;clear hN
 by_cases h0:0 < s.size
 ·have h:=SE h0
  by_cases d:s.size<=32
  ·have m:decide (32 < (s.size:Int))=false:=by simp;omega
   by_cases hl:CP s[0]=true
   ·have f:=ya hl;clear hl
    go_enter Try.func69,Try.ntmps69
    go_wp2_with (first|(go_at_call 91;refine (TI _ 2 (SG f.o) _).mono ?_;rintro e w' ⟨rfl,rfl⟩))
    go_loop [3,4,20] (fun _ _ i=>∃k:Nat,k<=s.size∧i=iV k∧(s.data.toList.take k).all EK=true) (fun _ _ i=>s.size - (intOf i).toNat)
    case atStart=>exact ⟨0,by omega,rfl,rfl⟩
    case round=>
     obtain ⟨k,p,rfl,j⟩:=hrel
     have l:=ya j;clear j
     by_cases a:k < s.size
     ·by_cases g:EK s[k]=true
      ·have c:=ya g;clear g
       go_wp2_with (first|(go_at_call 91;refine (QD _ c.o _).mono ?_;rintro e w' ⟨n1,(rfl|rfl|rfl),rfl,rfl⟩))
       all_goals exact ⟨⟨k+1,by omega,by go_num,P5 a l.o c.o⟩,by simp[intOf];omega⟩
      ·have c:=ya (yj.2 g);clear g
       go_wp2_with (first|(go_at_call 91;refine (Oe _ c.o _).mono ?_;rintro e w' ⟨n1,c2,r,q,rfl,rfl⟩))
       go_ret
       exact ⟨Au (by rw[<-b.o,LG a c.o]),rfl⟩
     ·go_wp2
      go_ret
      obtain rfl:k=s.size:=by omega
      exact ⟨Au (by rw[<-b.o,Nb h0 d f.o l.o]),rfl⟩
   ·have f:=ya (yj.2 hl);clear hl
    go_enter Try.func69,Try.ntmps69
    go_wp2_with (first|(go_at_call 91;refine (LH _ f.o _).mono ?_;rintro e w' ⟨n0,n,rfl,rfl⟩))
    go_ret
    exact ⟨Au (by rw[<-b.o,KM h0 f.o]),rfl⟩
  ·go_enter Try.func69,Try.ntmps69
   go_wp2_with fail
   go_ret
   exact ⟨Au (by rw[<-b.o,LF h0 d]),rfl⟩
 ·have h:=TH h0
  go_enter Try.func69,Try.ntmps69
  go_wp2_with fail
  go_ret
  exact ⟨Au (by rw[<-b.o,KL h0]),rfl⟩
end Go.Proofs.Ytghepahgkcigpaa
namespace Go.Proofs.Ytghepahgkcigpaa
open Go.RowKit
attribute [local go_sem] Oper.semAt_some
def Ln(J:Nat->NP->World->Prop)(Jx:NP->World->Prop)(Jp:List PanicEntry->NP->World->Prop)(O:NP)(k:Nat)(W:World)(e:Ending)(W':World):Prop:=
 (e=.returned (.bool true)∧J k O W'∧Cd O W W')∨(e=.returned (.bool false)∧Jx O W'∧Cd O W W')∨∃a,e=.panicked a∧Jp a O W'∧Cd O W W'
theorem DV{O:NP}{W W':World}(h:Cd O W W'){b o:Nat}(hb:O b){v:Value}(hc:W.cell? ⟨b,o,none⟩=some v):W'.cell? ⟨b,o,none⟩=some v:=by
 unfold World.cell? at hc ⊢
 rw[h.2 b hb];exact hc
theorem V4(n:Nat)(Q:1<=n)(l Bc g:Nat)(lt:Int)(ps:LV)(f:Nat)(O:NP)(J:Nat->NP->World->Prop)(Jx:NP->World->Prop)(Jp:List PanicEntry->NP->World->Prop)(W:World)
 (x:O Bc)(B:O g)(s:ps.length<=100)(hc:W.cell? ⟨Bc,0,none⟩=some (.func (.yield l) #[] #[]))(j:∀i (h:i < ps.length),W.cell? ⟨g,i,none⟩=some ps[i])(a:∀i (h:i < ps.length),∃p,ps[i]=.pointer (some p))
 (A:∀i (h:i < ps.length) W1,J (f+i) O W1->Cd O W W1->YieldAt Fence.wide (n - 1) Try.prog l #[ps[i],.int .i64 lt] W1 (Ln J Jx Jp O (f+i+1) W1))
 (h0:J f O W):
  CallsIn Fence.wide n Try.prog 90 #[.int .i64 lt,.slice (some ⟨g,0,none⟩) ps.length ps.length,.pointer (some ⟨Bc,0,none⟩)] W (Ln J Jx Jp O (f+ps.length) W):=by
 have F:=ya hc
 have w:=ya j
 have I:=ya A
 have M:=ya h0
 have E:=ya x
 have u:=ya B
 have k:=ya a
 generalize hN:ps.length=N at s ⊢
 have K:=ya hN
 clear hc j A h0 hN x B a
 refine callsIn_of_wp Try.func90 rfl trivial ?_ rfl
 simp only[Try.ntmps90,yp,yC,yK,Nat.reduceAdd,Nat.reduceSub,zQ,zR,xl,xd,yE,yL]
 gi_wp2
 gi_loopw [10] (fun t wr=>∃i:Nat,i<=N∧t=iV i∧Hid (J (f+i) O wr)∧Hid (Cd O W wr)) (fun t _=>N - (intOf t).toNat)
 case atStart=>exact ⟨0,yv _,rfl,M,ya (Cd.refl _ _)⟩
 case round=>
  obtain ⟨i,hi,rfl,y,c⟩:=hrel
  by_cases r:i < N
  ·have d:i < ps.length:=by rw[K.o];exact r
   have c0:=DV c.o E.o F.o
   have c1:=DV c.o u.o (w.o i d)
   obtain ⟨p,m⟩:=k.o i d
   obtain ⟨fn,tmps,assign,body,G,C⟩:=I.o i d wr y.o c.o
   rw[m] at c1 G
   have H:=ya C
   have P:(i:Int) < (N:Int):=by omega
   clear C m
   gi_wp2
   refine H.o.mono ?_
   rintro e R (⟨rfl,D,hs⟩|⟨rfl,z,hs⟩|⟨L,rfl,m,hs⟩)
   ·have q:=ya D
    have b:=ya (c.o.trans hs)
    clear D hs
    gi_wp2
    exact ⟨⟨i+1,by omega,by go_num,q,b⟩,by simp[intOf];omega⟩
   ·have v:=ya z
    have b:=ya (c.o.trans hs)
    clear z hs
    gi_wp2
    go_ret
    exact .inr (.inl ⟨rfl,v.o,b.o⟩)
   ·exact ⟨rfl,.inr (.inr ⟨L,rfl,m,c.o.trans hs⟩)⟩
  ·obtain rfl:i=N:=by omega
   gi_wp2
   go_ret
   exact .inl ⟨rfl,y.o,c.o⟩
end Go.Proofs.Ytghepahgkcigpaa
namespace Go.Proofs.Ytghepahgkcigpaa
open Go.RowKit
structure AF where
 a:Option Addr
 n:Nat
 c:Nat
def AF.v(h:AF):Value:=.slice h.a h.n h.c
def AF.at(h:AF)(sz i off:Nat):Addr:=match h.a with
 |some ⟨b,o,_⟩=>⟨b,o+i*sz+off,none⟩
 |none=>⟨0,0,none⟩
def AF.ptr(h:AF)(sz i off:Nat):Value:=.pointer (some (h.at sz i off))
def AF.ok(h:AF):Prop:=h.n<=140737488355328∧(0 < h.n->∃b o,h.a=some ⟨b,o,none⟩)
theorem AF.ok.get{h:AF}(d:h.ok){i:Nat}(hi:i < h.n):∃b o,h.a=some ⟨b,o,none⟩∧∀sz i off,h.at sz i off=⟨b,o+i*sz+off,none⟩:=by
 obtain ⟨b,o,c⟩:=d.2 (by omega)
 exact ⟨b,o,c,fun sz i off=>by unfold AF.at;rw[c]⟩
structure BL where
 s:Nat
 lets:AF
 crops:AF
 reaches:AF
 farms:AF
 rots:AF
 rights:AF
 duties:AF
 turns:List AF
def one(p:Value)(lt:Int):List (Array Value):=[#[p,.int .i64 lt]]
def AL(ps:LV):List (Array Value):=ps.map fun p=>#[p,.int .i64 0]
def Ax(s:Nat):LV:=[.pointer (some ⟨s,1,none⟩),.pointer (some ⟨s,7,none⟩),.pointer (some ⟨s,13,none⟩)]
def Lo(h:AF)(i:Nat):LV:=[h.ptr 51 i 3,h.ptr 51 i 9,h.ptr 51 i 15,h.ptr 51 i 21,h.ptr 51 i 27,h.ptr 51 i 33,h.ptr 51 i 39,h.ptr 51 i 45]
def F5(h:AF)(i:Nat):LV:=[h.ptr 23 i 4,h.ptr 23 i 10,h.ptr 23 i 16]
def Lp(h:AF)(i:Nat):LV:=[h.ptr 37 i 7,h.ptr 37 i 13,h.ptr 37 i 19,h.ptr 37 i 25,h.ptr 37 i 31]
def A5(L:BL)(i:Nat):AF:=L.turns.getD i ⟨none,0,0⟩
def AM(L:BL)(n:Nat):List (Array Value):=(List.range n).flatMap fun i=> [#[L.lets.ptr 7 i 1,.int .i64 (1+(i:Int))]]
def Ay(L:BL)(n:Nat):List (Array Value):=(List.range n).flatMap fun i=>AL [L.crops.ptr 7 i 1]
def Am(L:BL)(n:Nat):List (Array Value):=(List.range n).flatMap fun i=>AL (Lo L.reaches i)
def AN(L:BL)(n:Nat):List (Array Value):=(List.range n).flatMap fun i=>AL [L.farms.ptr 12 i 4]
def Cq(h:AF)(n:Nat):List (Array Value):=(List.range n).flatMap fun k=>AL [h.ptr 8 k 2]
def BG(L:BL)(n:Nat):List (Array Value):=(List.range n).flatMap fun i=>AL (F5 L.rots i)++Cq (A5 L i) (A5 L i).n
def Bm(L:BL)(n:Nat):List (Array Value):=(List.range n).flatMap fun i=>AL (Lp L.rights i)
def C8(L:BL)(n:Nat):List (Array Value):=(List.range n).flatMap fun i=>AL [L.duties.ptr 11 i 5]
def Cw(L:BL):List (Array Value):=
 AL (Ax L.s)++(AM L L.lets.n++(Ay L L.crops.n++(Am L L.reaches.n++(AN L L.farms.n++(BG L L.rots.n++(Bm L L.rights.n++C8 L L.duties.n))))))
structure JW (L:BL) (Bs:Nat) (W:World):Prop where
 box:W.cell? ⟨Bs,0,none⟩=some (.pointer (some ⟨L.s,0,none⟩))
 lets:W.cell? ⟨L.s,19,none⟩=some L.lets.v
 crops:W.cell? ⟨L.s,20,none⟩=some L.crops.v
 reaches:W.cell? ⟨L.s,21,none⟩=some L.reaches.v
 farms:W.cell? ⟨L.s,22,none⟩=some L.farms.v
 rots:W.cell? ⟨L.s,23,none⟩=some L.rots.v
 rights:W.cell? ⟨L.s,24,none⟩=some L.rights.v
 duties:W.cell? ⟨L.s,25,none⟩=some L.duties.v
 turns:∀i,i < L.rots.n->W.cell? (L.rots.at 23 i 22)=some (A5 L i).v
structure BL.Ok (L:BL):Prop where
 lets:L.lets.ok
 crops:L.crops.ok
 reaches:L.reaches.ok
 farms:L.farms.ok
 rots:L.rots.ok
 rights:L.rights.ok
 duties:L.duties.ok
 turns:∀i,i < L.rots.n->(A5 L i).ok
theorem Cf{α:Type}(f:Nat->List α){n i:Nat}(h:i < n):∃post,(List.range n).flatMap f=(List.range i).flatMap f++(f i++post):=by
 obtain ⟨m,rfl⟩:∃m,n=(i+1)+m:=⟨n - (i+1),by omega⟩
 rw[List.range_add,zD,List.range_succ,zD]
 exact ⟨_,by simp[yg];rfl⟩
theorem Az{α:Type}(f:Nat->List α)(i:Nat):(List.range (i+1)).flatMap f=(List.range i).flatMap f++f i:=by
 rw[List.range_succ,zD];simp
structure X4 (n l:Nat) (P:Program) (xs:List (Array Value)) (Hd:World->Prop) (J:Nat->(Nat->Prop)->World->Prop) (Jx:(Nat->Prop)->World->Prop) (Jp:List PanicEntry->(Nat->Prop)->World->Prop) (W0:World):Prop where
 stays:Ep J
 staysx:Ep (fun (_:Unit)=>Jx)
 hd:∀k O W,J k O W->Hd W
 hdx:∀O W,Jx O W->Hd W
 round:∀k (hk:k < xs.length) O W1,J k O W1->W0.heap.size<=W1.heap.size->(∀b,O b->W0.heap.size<=b∧b < W1.heap.size)->YieldAt Fence.wide n P l xs[k] W1 (Ln J Jx Jp O (k+1) W1)
structure JA (J:Nat->(Nat->Prop)->World->Prop) (W0:World) (l Bc k:Nat) (O:Nat->Prop) (wr:World):Prop where
 j:J k O wr
 bc:O Bc
 box:wr.cell? ⟨Bc,0,none⟩=some (.func (.yield l) #[] #[])
 size:W0.heap.size<=wr.heap.size
 own:∀b,O b->W0.heap.size<=b∧b < wr.heap.size
section
variable{n l Bc k:Nat}{P:Program}{xs:List (Array Value)}{Hd:World->Prop}{J:Nat->NP->World->Prop}{Jx:NP->World->Prop}{Jp:List PanicEntry->NP->World->Prop}{W0 wr w2:World}{O:NP}
theorem Fu{β:Type}{J:β->NP->World->Prop}(h:Ep J){s:β}{O:NP}{W W':World}(d:J s O W)(hb:Below W.heap.size W W'):J s (fun b=>O b∨(W.heap.size<=b∧b < W'.heap.size)) W':=
 h s O W _ W' d hb.size hb.os hb.tape hb.output (fun b _ c=>hb.block b c) (fun _ a=>a.elim .inl (fun h=>.inr h.1))
theorem JA.below(hc:X4 n l P xs Hd J Jx Jp W0)(h:JA J W0 l Bc k O wr)(hb:Below wr.heap.size wr w2):JA J W0 l Bc k (fun b=>O b∨(wr.heap.size<=b∧b < w2.heap.size)) w2:=
 ⟨Fu hc.stays h.j hb,.inl h.bc,(hb.cell (p:=⟨Bc,0,none⟩) (h.own _ h.bc).2).trans h.box,yo h.size hb.size,fun b a=>by
  rcases a with a|a
  ·have:=h.own b a;have:=hb.size;omega
  ·have:=h.size;omega⟩
def X9(J:Nat->NP->World->Prop)(Jx:NP->World->Prop)(Jp:List PanicEntry->NP->World->Prop)(W0:World)(l Bc k:Nat)(e:Ending)(W':World):Prop:=
 (∃r:Bool,e=.returned (.bool r)∧((r=true∧∃a,JA J W0 l Bc k a W')∨(r=false∧∃a,Jx a W')))∨∃b,e=.panicked b∧∃a,Jp b a W'
theorem Eg(hc:X4 (n - 1) l Try.prog xs Hd J Jx Jp W0)(s:1<=n){pre:List (Array Value)}(h:JA J W0 l Bc pre.length O wr)(lt:Int)(a:Array Value)(N:Nat)(hN:a.size=N)(t:TypeId)(f:∃post,xs=pre++(a.toList.map (fun p=>#[p,.int .i64 lt])++post))(m:N<=100)(d:∀p∈a.toList,∃q,p=.pointer (some q))(g:Nat)(x:g=wr.heap.size):
  Calls Try.prog 90 #[.int .i64 lt,.slice (some ⟨g,0,none⟩) N N,.pointer (some ⟨Bc,0,none⟩)] (wr.alloc (.cells a t)) (X9 J Jx Jp W0 l Bc (pre.length+N)):=by
 subst hN x
 have hb:Below wr.heap.size wr (wr.alloc (.cells a t)):=(yc _ _).alloc (ye _) _
 have h2:=h.below hc hb
 have c:a.toList.length=a.size:=by simp
 refine za.1 ((V4 n s l Bc wr.heap.size lt a.toList pre.length _ J Jx Jp _ h2.bc (.inr ⟨ye _,by simp⟩) (by rw[c];exact m) h2.box (fun i hi=>?_) (fun i hi=>d _ (yw hi)) (fun i hi v k hs=>?_) h2.j).mono ?_)
 ·have:(wr.alloc (.cells a t)).heap[wr.heap.size]?=some (.cells a t (0,0)):=World.alloc_heap_new _ _
  simp only[World.cell?,this]
  simp[c▸hi]
 ·obtain ⟨post,f⟩:=f
  have r:pre.length+i < xs.length:=by rw[f];simp;simp at hi;omega
  have y:xs[pre.length+i]=#[a.toList[i],iV lt]:=by
   subst f
   rw[qg (by omega)]
   simp only[xW]
   rw[qh (by simpa using hi),xf]
  have:=hc.round (pre.length+i) r _ v k (yo h2.size hs.1) (fun b hb=>by have:=h2.own b hb;have:=hs.1;omega)
  rw[y] at this
  exact this
 ·rintro e W' (⟨rfl,k,hs⟩|⟨rfl,o,hs⟩|⟨u,rfl,w,_⟩)
  ·rw[c] at k
   exact .inl ⟨true,rfl,.inl ⟨rfl,_,k,h2.bc,DV hs h2.bc h2.box,yo h2.size hs.1,fun b hb=>by have:=h2.own b hb;have:=hs.1;omega⟩⟩
  ·exact .inl ⟨false,rfl,.inr ⟨rfl,_,o⟩⟩
  ·exact .inr ⟨u,rfl,_,w⟩
end
structure Rf where
 name:ByteArray
 n:Int
structure E8 where
 name:ByteArray
 value:Ex
structure Cp where
 name:ByteArray
 need:Ex
structure AI where
 name:ByteArray
 frm:Rf
 delay:Ex
 cap:Ex
 bank:Ex
 siphon:Ex
 evap0:Ex
 evap1:Ex
 seep0:Ex
 seep1:Ex
structure BN where
 name:ByteArray
 on:Rf
 river:Bool
 area:Ex
 crop:Rf
structure BM where
 farm:Rf
 len:Ex
structure AS where
 name:ByteArray
 on:Rf
 rank:Int
 flow:Ex
 frm:Ex
 to:Ex
 turns:List BM
structure AJ where
 kind:Int
 name:ByteArray
 farm:Rf
 reach:Rf
 rank:Int
 flow:Ex
 frm:Ex
 to:Ex
 every:Ex
 len:Ex
structure BV where
 name:ByteArray
 farm:Rf
 reach:Rf
 due:Ex
structure AA where
 name:ByteArray
 season:Ex
 cap:Ex
 start:Ex
 lets:List E8
 crops:List Cp
 reaches:List AI
 farms:List BN
 rots:List AS
 rights:List AJ
 duties:List BV
def B7{α:Type}(N:NP)(w:World)(sz:Nat)(P:LV->α->Prop)(h:AF)(l:List α):Prop:=
 h.n=l.length∧l.length<=140737488355328∧∀i (hi:i < l.length),∃b o cs,h.a=some ⟨b,o,none⟩∧N b∧cs.length=sz∧w.rangeAt b (o+i*sz) cs∧P cs l[i]
def Ad(r:Rf):LV:=[.string r.name,.int .i64 r.n]
section
variable(N:NP)(w:World)
def Hf(cs:LV)(d:E8):Prop:=d.name.size<=maxLen∧∃c,cs=.string d.name::c∧Bh N w d.value c
def F6(cs:LV)(d:Cp):Prop:=d.name.size<=maxLen∧∃c,cs=.string d.name::c∧Bh N w d.need c
def CY(cs:LV)(d:AI):Prop:=d.name.size<=maxLen∧d.frm.name.size<=maxLen∧∃c0 c1 c2 f c e b a,cs=.string d.name::(Ad d.frm++(c0++(c1++(c2++(f++(c++(e++(b++a))))))))∧
 Bh N w d.delay c0∧Bh N w d.cap c1∧Bh N w d.bank c2∧Bh N w d.siphon f∧Bh N w d.evap0 c∧Bh N w d.evap1 e∧Bh N w d.seep0 b∧Bh N w d.seep1 a
def E9(cs:LV)(d:BN):Prop:=d.name.size<=maxLen∧d.on.name.size<=maxLen∧d.crop.name.size<=maxLen∧∃c,cs=.string d.name::(Ad d.on++(.bool d.river::(c++Ad d.crop)))∧Bh N w d.area c
def Fv(cs:LV)(d:BM):Prop:=d.farm.name.size<=maxLen∧∃c,cs=Ad d.farm++c∧Bh N w d.len c
def I6(h:AF)(cs:LV)(d:AS):Prop:=d.name.size<=maxLen∧d.on.name.size<=maxLen∧∃c0 c1 c2,cs=.string d.name::(Ad d.on++(.int .i64 d.rank::(c0++(c1++(c2++[h.v])))))∧
 Bh N w d.flow c0∧Bh N w d.frm c1∧Bh N w d.to c2∧B7 N w 8 (Fv N w) h d.turns
def CQ(cs:LV)(d:AJ):Prop:=d.name.size<=maxLen∧d.farm.name.size<=maxLen∧d.reach.name.size<=maxLen∧∃c0 c1 c2 b a,cs=.int .i64 d.kind::.string d.name::(Ad d.farm++(Ad d.reach++(.int .i64 d.rank::(c0++(c1++(c2++(b++a)))))))∧
 Bh N w d.flow c0∧Bh N w d.frm c1∧Bh N w d.to c2∧Bh N w d.every b∧Bh N w d.len a
def Er(cs:LV)(d:BV):Prop:=d.name.size<=maxLen∧d.farm.name.size<=maxLen∧d.reach.name.size<=maxLen∧∃c,cs=.string d.name::(Ad d.farm++(Ad d.reach++c))∧Bh N w d.due c
structure Ba (L:BL) (cs:List Value) (x:AA):Prop where
 name:x.name.size<=maxLen
 cells:∃c0 c1 c2,cs=.string x.name::(c0++(c1++(c2++[L.lets.v,L.crops.v,L.reaches.v,L.farms.v,L.rots.v,L.rights.v,L.duties.v])))∧Bh N w x.season c0∧Bh N w x.cap c1∧Bh N w x.start c2
 lets:B7 N w 7 (Hf N w) L.lets x.lets
 crops:B7 N w 7 (F6 N w) L.crops x.crops
 reaches:B7 N w 51 (CY N w) L.reaches x.reaches
 farms:B7 N w 12 (E9 N w) L.farms x.farms
 rots:L.rots.n=x.rots.length∧x.rots.length<=140737488355328∧∀i (hi:i < x.rots.length),∃b o cs,L.rots.a=some ⟨b,o,none⟩∧N b∧cs.length=23∧w.rangeAt b (o+i*23) cs∧I6 N w (A5 L i) cs x.rots[i]
 rights:B7 N w 37 (CQ N w) L.rights x.rights
 duties:B7 N w 11 (Er N w) L.duties x.duties
end
section
variable{N N':NP}{w w':World}
theorem B7.same{α:Type}{sz:Nat}{P c:LV->α->Prop}{h:AF}{l:List α}(j:∀b,N b->N' b)(hb:∀b,N b->w'.heap[b]?=w.heap[b]?)(k:∀cs d,P cs d->c cs d)(g:B7 N w sz P h l):B7 N' w' sz c h l:=by
 obtain ⟨h1,h2,h3⟩:=g
 refine ⟨h1,h2,fun i hi=>?_⟩
 obtain ⟨b,o,cs,g1,a,e,f,m⟩:=h3 i hi
 exact ⟨b,o,cs,g1,j b a,e,A1 f (hb b a),k _ _ m⟩
theorem B7.ok{α:Type}{sz:Nat}{P:LV->α->Prop}{h:AF}{l:List α}(a:B7 N w sz P h l):h.ok:=by
 obtain ⟨h1,h2,h3⟩:=a
 refine ⟨by omega,fun c=>?_⟩
 obtain ⟨b,o,_,g1,_⟩:=h3 0 (by omega)
 exact ⟨b,o,g1⟩
theorem Hf.same(a:∀b,N b->N' b)(hb:∀b,N b->w'.heap[b]?=w.heap[b]?){cs:LV}{d:E8}(h:Hf N w cs d):Hf N' w' cs d:=by
 obtain ⟨h1,c,h2,h3⟩:=h
 exact ⟨h1,c,h2,h3.same a hb⟩
theorem F6.same(a:∀b,N b->N' b)(hb:∀b,N b->w'.heap[b]?=w.heap[b]?){cs:LV}{d:Cp}(h:F6 N w cs d):F6 N' w' cs d:=by
 obtain ⟨h1,c,h2,h3⟩:=h
 exact ⟨h1,c,h2,h3.same a hb⟩
theorem CY.same(a:∀b,N b->N' b)(hb:∀b,N b->w'.heap[b]?=w.heap[b]?){cs:LV}{d:AI}(h:CY N w cs d):CY N' w' cs d:=by
 obtain ⟨h1,h2,c0,c1,c2,k,o,i,g,m,h3,p,g1,n,c,e,l,j,f⟩:=h
 exact ⟨h1,h2,c0,c1,c2,k,o,i,g,m,h3,p.same a hb,g1.same a hb,n.same a hb,c.same a hb,e.same a hb,l.same a hb,j.same a hb,f.same a hb⟩
theorem E9.same(a:∀b,N b->N' b)(hb:∀b,N b->w'.heap[b]?=w.heap[b]?){cs:LV}{d:BN}(h:E9 N w cs d):E9 N' w' cs d:=by
 obtain ⟨h1,h2,h3,c,h4,g⟩:=h
 exact ⟨h1,h2,h3,c,h4,g.same a hb⟩
theorem Fv.same(a:∀b,N b->N' b)(hb:∀b,N b->w'.heap[b]?=w.heap[b]?){cs:LV}{d:BM}(h:Fv N w cs d):Fv N' w' cs d:=by
 obtain ⟨h1,c,h2,g⟩:=h
 exact ⟨h1,c,h2,g.same a hb⟩
theorem I6.same(a:∀b,N b->N' b)(hb:∀b,N b->w'.heap[b]?=w.heap[b]?){t:AF}{cs:LV}{d:AS}(h:I6 N w t cs d):I6 N' w' t cs d:=by
 obtain ⟨h1,h2,c0,c1,c2,h3,f,g1,e,c⟩:=h
 exact ⟨h1,h2,c0,c1,c2,h3,f.same a hb,g1.same a hb,e.same a hb,c.same a hb (fun _ _ h=>h.same a hb)⟩
theorem CQ.same(a:∀b,N b->N' b)(hb:∀b,N b->w'.heap[b]?=w.heap[b]?){cs:LV}{d:AJ}(h:CQ N w cs d):CQ N' w' cs d:=by
 obtain ⟨h1,h2,h3,c0,c1,c2,f,i,h4,j,g1,g,c,e⟩:=h
 exact ⟨h1,h2,h3,c0,c1,c2,f,i,h4,j.same a hb,g1.same a hb,g.same a hb,c.same a hb,e.same a hb⟩
theorem Er.same(a:∀b,N b->N' b)(hb:∀b,N b->w'.heap[b]?=w.heap[b]?){cs:LV}{d:BV}(h:Er N w cs d):Er N' w' cs d:=by
 obtain ⟨h1,h2,h3,c,h4,g⟩:=h
 exact ⟨h1,h2,h3,c,h4,g.same a hb⟩
theorem Ba.same(a:∀b,N b->N' b)(hb:∀b,N b->w'.heap[b]?=w.heap[b]?){L:BL}{cs:LV}{x:AA}(h:Ba N w L cs x):Ba N' w' L cs x:=by
 refine ⟨h.name,?_,h.lets.same a hb (fun _ _ h=>h.same a hb),h.crops.same a hb (fun _ _ h=>h.same a hb),h.reaches.same a hb (fun _ _ h=>h.same a hb),h.farms.same a hb (fun _ _ h=>h.same a hb),?_,h.rights.same a hb (fun _ _ h=>h.same a hb),h.duties.same a hb (fun _ _ h=>h.same a hb)⟩
 ·obtain ⟨c0,c1,c2,h1,g,g1,c⟩:=h.cells
  exact ⟨c0,c1,c2,h1,g.same a hb,g1.same a hb,c.same a hb⟩
 ·obtain ⟨h1,h2,h3⟩:=h.rots
  refine ⟨h1,h2,fun i hi=>?_⟩
  obtain ⟨b,o,cs,g1,c,d,e,f⟩:=h3 i hi
  exact ⟨b,o,cs,g1,a b c,d,A1 e (hb b c),f.same a hb⟩
theorem Ba.ok{L:BL}{cs:LV}{x:AA}(h:Ba N w L cs x):L.Ok:=by
 obtain ⟨h1,h2,h3⟩:=h.rots
 refine ⟨h.lets.ok,h.crops.ok,h.reaches.ok,h.farms.ok,⟨by omega,fun a=>?_⟩,h.rights.ok,h.duties.ok,fun i hi=>?_⟩
 ·obtain ⟨b,o,_,g1,_⟩:=h3 0 (by omega)
  exact ⟨b,o,g1⟩
 ·obtain ⟨_,_,_,_,_,_,_,g⟩:=h3 i (by omega)
  obtain ⟨_,_,_,_,_,_,_,_,_,g⟩:=g
  exact g.ok
end
def AW{α β:Type}(R:α->β->Prop):List α->List β->Prop
 |[],[]=>True
 |a::l,b::m=>R a b∧AW R l m
 |_,_=>False
section
variable{α β:Type}{R:α->β->Prop}
theorem AW.append:∀ {l:List α} {m:List β} {l':List α} {a:List β},AW R l m->AW R l' a->AW R (l++l') (m++a)
 |[],[],_,_,_,h=>h
 |_::_,_::_,_,_,h,h'=>⟨h.1,h.2.append h'⟩
 |[],_::_,_,_,h,_=>h.elim
 |_::_,[],_,_,h,_=>h.elim
theorem AW.length:∀ {l:List α} {m:List β},AW R l m->l.length=m.length
 |[],[],_=>rfl
 |_::_,_::_,h=>by simp[h.2.length]
 |[],_::_,h=>h.elim
 |_::_,[],h=>h.elim
theorem AW.get:∀ {l:List α} {m:List β},AW R l m->∀i (h:i < l.length) (a:i < m.length),R l[i] m[i]
 |[],_,_,i,h,_=>by simp at h
 |_::_,_::_,h,0,_,_=>h.1
 |_::_,_::_,h,i+1,h1,h2=>h.2.get i (by simpa using h1) (by simpa using h2)
 |_::_,[],h,_,_,_=>h.elim
theorem AW.mono{R':α->β->Prop}(c:∀a b,R a b->R' a b):∀ {l:List α} {m:List β},AW R l m->AW R' l m
 |[],[],h=>h
 |_::_,_::_,h=>⟨c _ _ h.1,h.2.mono c⟩
 |[],_::_,h=>h.elim
 |_::_,[],h=>h.elim
theorem Nh{γ:Type}(f:Nat->List α)(g:Nat->γ->List β):∀(l:List γ) (k:Nat),(∀i (h:i < l.length),AW R (f (k+i)) (g (k+i) l[i]))->AW R ((List.range' k l.length).flatMap f) ((l.zipIdx k).flatMap fun p=>g p.2 p.1)
 |[],_,_=>by simp[AW]
 |x::r,k,h=>by
  rw[yC,List.range'_succ,yY,qd,yY]
  refine (h 0 (by simp)).append (Nh f g r (k+1) fun i hi=>?_)
  have:=h (i+1) (by simpa using hi)
  rw[show k+1+i=k+(i+1) by omega]
  simpa using this
theorem BO{γ:Type}(f:Nat->List α)(g:Nat->γ->List β)(l:List γ)(n:Nat)(a:n=l.length)(h:∀i (h:i < l.length),AW R (f i) (g i l[i])):AW R ((List.range n).flatMap f) (l.zipIdx.flatMap fun p=>g p.2 p.1):=by
 subst a
 rw[List.range_eq_range']
 exact Nh f g l 0 (fun i hi=>by rw[yD];exact h i hi)
end
abbrev Kp:=Ex × Int
def JB(l:List E8):List Kp:=l.zipIdx.flatMap fun p=> [(p.1.value,1+(p.2:Int))]
def Gb(l:List Cp):List Kp:=l.zipIdx.flatMap fun p=> [(p.1.need,0)]
def Eb(l:List AI):List Kp:=l.zipIdx.flatMap fun p=> [(p.1.delay,0),(p.1.cap,0),(p.1.bank,0),(p.1.siphon,0),(p.1.evap0,0),(p.1.evap1,0),(p.1.seep0,0),(p.1.seep1,0)]
def Gc(l:List BN):List Kp:=l.zipIdx.flatMap fun p=> [(p.1.area,0)]
def DY(l:List BM):List Kp:=l.zipIdx.flatMap fun p=> [(p.1.len,0)]
def Iv(l:List AS):List Kp:=l.zipIdx.flatMap fun p=> [(p.1.flow,0),(p.1.frm,0),(p.1.to,0)]++DY p.1.turns
def EM(l:List AJ):List Kp:=l.zipIdx.flatMap fun p=> [(p.1.flow,0),(p.1.frm,0),(p.1.to,0),(p.1.every,0),(p.1.len,0)]
def EN(l:List BV):List Kp:=l.zipIdx.flatMap fun p=> [(p.1.due,0)]
def Bb(x:AA):List Kp:=
 [(x.season,0),(x.cap,0),(x.start,0)]++(JB x.lets++(Gb x.crops++(Eb x.reaches++(Gc x.farms++(Iv x.rots++(EM x.rights++EN x.duties))))))
def Xa(N:NP)(s:Nat)(w:World)(a:Array Value)(e:Kp):Prop:=
 ∃b o cs,a=#[.pointer (some ⟨b,o,none⟩),.int .i64 e.2]∧(b=s∨N b)∧w.rangeAt b o cs∧Bh N w e.1 cs
theorem Bn{w:World}{b o:Nat}{p c q:LV}(h:w.rangeAt b o (p++(c++q))):w.rangeAt b (o+p.length) c:=fun j v a=>by
 have d:=(yA.1 a).1
 have:=h (p.length+j) v (by rw[yJ (by omega),xW,zp d];exact a)
 rw[show o+p.length+j=o+(p.length+j) by omega];exact this
theorem Bh.len{N:NP}{w:World}{e:Ex}{c:LV}(h:Bh N w e c):c.length=6:=by
 obtain ⟨a,cap,rfl,_⟩:=h.cells;rfl
theorem Dq{N:NP}{s:Nat}{w:World}{h:AF}{b o sz i off:Nat}{p c q:LV}{e:Ex}(lt:Int)(a:∀sz i off,h.at sz i off=⟨b,o+i*sz+off,none⟩)(hb:b=s∨N b){cs:LV}(d:w.rangeAt b (o+i*sz) cs)(hc:cs=p++(c++q))(f:p.length=off)(g:Bh N w e c):
  Xa N s w #[h.ptr sz i off,.int .i64 lt] (e,lt):=by
 subst hc
 refine ⟨b,o+i*sz+off,c,?_,hb,?_,g⟩
 ·unfold AF.ptr;rw[a]
 ·have:=Bn d
  rw[f] at this;exact this
theorem BE{h:AF}{b o:Nat}(c:h.a=some ⟨b,o,none⟩):∀sz i off,h.at sz i off=⟨b,o+i*sz+off,none⟩:=fun sz i off=>by unfold AF.at;rw[c]
theorem A9(r:Rf):(Ad r).length=2:=rfl
section
variable{N:NP}{w:World}{L:BL}{cs:LV}{x:AA}
theorem JJ(h:Ba N w L cs x)(C:w.rangeAt L.s 0 cs):AW (Xa N L.s w) (Cw L) (Bb x):=by
 refine AW.append ?_ (AW.append ?_ (AW.append ?_ (AW.append ?_ (AW.append ?_ (AW.append ?_ (AW.append ?_ ?_))))))
 ·obtain ⟨c0,c1,c2,rfl,G,g1,a⟩:=h.cells
  have f:=G.len
  have g:=g1.len
  refine ⟨⟨L.s,1,c0,rfl,.inl rfl,?_,G⟩,⟨L.s,7,c1,rfl,.inl rfl,?_,g1⟩,⟨L.s,13,c2,rfl,.inl rfl,?_,a⟩,trivial⟩
  ·exact Bn (p:=[.string x.name]) (o:=0) C
  ·have:=Bn (p:=.string x.name::c0) (c:=c1) (q:=c2++[L.lets.v,L.crops.v,L.reaches.v,L.farms.v,L.rots.v,L.rights.v,L.duties.v]) (o:=0) (b:=L.s) (w:=w) (by simpa using C)
   simpa[f] using this
  ·have:=Bn (p:=.string x.name::(c0++c1)) (c:=c2) (q:=[L.lets.v,L.crops.v,L.reaches.v,L.farms.v,L.rots.v,L.rights.v,L.duties.v]) (o:=0) (b:=L.s) (w:=w) (by simpa using C)
   simpa[f,g] using this
 ·obtain ⟨h1,h2,h3⟩:=h.lets
  refine BO _ (fun i (d:E8)=> [(d.value,1+(i:Int))]) x.lets _ h1 fun i hi=>?_
  obtain ⟨b,o,cs,g1,a,r,e,_,c,rfl,j⟩:=h3 i hi
  exact ⟨Dq (p:=[.string (x.lets[i]).name]) (q:=[]) _ (BE g1) (.inr a) e (by simp) rfl j,trivial⟩
 ·obtain ⟨h1,h2,h3⟩:=h.crops
  refine BO _ (fun i (d:Cp)=> [(d.need,0)]) x.crops _ h1 fun i hi=>?_
  obtain ⟨b,o,cs,g1,a,r,e,_,c,rfl,j⟩:=h3 i hi
  exact ⟨Dq (p:=[.string (x.crops[i]).name]) (q:=[]) _ (BE g1) (.inr a) e (by simp) rfl j,trivial⟩
 ·obtain ⟨h1,h2,h3⟩:=h.reaches
  refine BO _ (fun i (d:AI)=> [(d.delay,0),(d.cap,0),(d.bank,0),(d.siphon,0),(d.evap0,0),(d.evap1,0),(d.seep0,0),(d.seep1,0)]) x.reaches _ h1 fun i hi=>?_
  obtain ⟨b,o,cs,g1,a,r,e,_,_,c0,c1,c2,y,B,F,K,Q,rfl,l,n,t,z,A,H,I,M⟩:=h3 i hi
  generalize x.reaches[i]=d at*
  have f:=l.len;have g:=n.len;have m:=t.len;have u:=z.len;have D:=A.len;have E:=H.len;have P:=I.len
  refine ⟨?_,?_,?_,?_,?_,?_,?_,?_,trivial⟩
  ·exact Dq (p:=.string d.name::Ad d.frm) _ (BE g1) (.inr a) e (by simp;rfl) rfl l
  ·exact Dq (p:=.string d.name::(Ad d.frm++c0)) _ (BE g1) (.inr a) e (by simp;rfl) (by simp[A9,f]) n
  ·exact Dq (p:=.string d.name::(Ad d.frm++(c0++c1))) _ (BE g1) (.inr a) e (by simp;rfl) (by simp[A9,f,g]) t
  ·exact Dq (p:=.string d.name::(Ad d.frm++(c0++(c1++c2)))) _ (BE g1) (.inr a) e (by simp;rfl) (by simp[A9,f,g,m]) z
  ·exact Dq (p:=.string d.name::(Ad d.frm++(c0++(c1++(c2++y))))) _ (BE g1) (.inr a) e (by simp;rfl) (by simp[A9,f,g,m,u]) A
  ·exact Dq (p:=.string d.name::(Ad d.frm++(c0++(c1++(c2++(y++B)))))) _ (BE g1) (.inr a) e (by simp;rfl) (by simp[A9,f,g,m,u,D]) H
  ·exact Dq (p:=.string d.name::(Ad d.frm++(c0++(c1++(c2++(y++(B++F))))))) _ (BE g1) (.inr a) e (by simp;rfl) (by simp[A9,f,g,m,u,D,E]) I
  ·exact Dq (p:=.string d.name::(Ad d.frm++(c0++(c1++(c2++(y++(B++(F++K)))))))) (q:=[]) _ (BE g1) (.inr a) e (by simp) (by simp[A9,f,g,m,u,D,E,P]) M
 ·obtain ⟨h1,h2,h3⟩:=h.farms
  refine BO _ (fun i (d:BN)=> [(d.area,0)]) x.farms _ h1 fun i hi=>?_
  obtain ⟨b,o,cs,g1,a,r,e,_,_,_,c,rfl,j⟩:=h3 i hi
  generalize x.farms[i]=d at*
  exact ⟨Dq (p:=.string d.name::(Ad d.on++[.bool d.river])) _ (BE g1) (.inr a) e (by simp;rfl) rfl j,trivial⟩
 ·obtain ⟨h1,h2,h3⟩:=h.rots
  refine BO _ (fun i (d:AS)=> [(d.flow,0),(d.frm,0),(d.to,0)]++DY d.turns) x.rots _ h1 fun i hi=>?_
  obtain ⟨b,o,cs,g1,a,r,e,_,_,c0,c1,c2,rfl,l,n,t,O⟩:=h3 i hi
  generalize x.rots[i]=d at*
  have f:=l.len;have g:=n.len
  refine AW.append ⟨?_,?_,?_,trivial⟩ ?_
  ·exact Dq (p:=.string d.name::(Ad d.on++[iV d.rank])) _ (BE g1) (.inr a) e (by simp;rfl) rfl l
  ·exact Dq (p:=.string d.name::(Ad d.on++(iV d.rank::c0))) _ (BE g1) (.inr a) e (by simp;rfl) (by simp[A9,f]) n
  ·exact Dq (p:=.string d.name::(Ad d.on++(iV d.rank::(c0++c1)))) _ (BE g1) (.inr a) e (by simp;rfl) (by simp[A9,f,g]) t
  ·obtain ⟨h1,h2,h3⟩:=O
   refine BO _ (fun k (d:BM)=> [(d.len,0)]) d.turns _ h1 fun k J=>?_
   obtain ⟨b,o,cs,g1,a,r,e,_,c,rfl,j⟩:=h3 k J
   exact ⟨Dq (p:=Ad (d.turns[k]).farm) (q:=[]) _ (BE g1) (.inr a) e (by simp) rfl j,trivial⟩
 ·obtain ⟨h1,h2,h3⟩:=h.rights
  refine BO _ (fun i (d:AJ)=> [(d.flow,0),(d.frm,0),(d.to,0),(d.every,0),(d.len,0)]) x.rights _ h1 fun i hi=>?_
  obtain ⟨b,o,cs,g1,a,r,e,_,_,_,c0,c1,c2,y,B,rfl,l,n,t,z,A⟩:=h3 i hi
  generalize x.rights[i]=d at*
  have f:=l.len;have g:=n.len;have m:=t.len;have u:=z.len
  refine ⟨?_,?_,?_,?_,?_,trivial⟩
  ·exact Dq (p:=iV d.kind::.string d.name::(Ad d.farm++(Ad d.reach++[iV d.rank]))) _ (BE g1) (.inr a) e (by simp;rfl) rfl l
  ·exact Dq (p:=iV d.kind::.string d.name::(Ad d.farm++(Ad d.reach++(iV d.rank::c0)))) _ (BE g1) (.inr a) e (by simp;rfl) (by simp[A9,f]) n
  ·exact Dq (p:=iV d.kind::.string d.name::(Ad d.farm++(Ad d.reach++(iV d.rank::(c0++c1))))) _ (BE g1) (.inr a) e (by simp;rfl) (by simp[A9,f,g]) t
  ·exact Dq (p:=iV d.kind::.string d.name::(Ad d.farm++(Ad d.reach++(iV d.rank::(c0++(c1++c2)))))) _ (BE g1) (.inr a) e (by simp;rfl) (by simp[A9,f,g,m]) z
  ·exact Dq (p:=iV d.kind::.string d.name::(Ad d.farm++(Ad d.reach++(iV d.rank::(c0++(c1++(c2++y))))))) (q:=[]) _ (BE g1) (.inr a) e (by simp) (by simp[A9,f,g,m,u]) A
 ·obtain ⟨h1,h2,h3⟩:=h.duties
  refine BO _ (fun i (d:BV)=> [(d.due,0)]) x.duties _ h1 fun i hi=>?_
  obtain ⟨b,o,cs,g1,a,r,e,_,_,_,c,rfl,j⟩:=h3 i hi
  generalize x.duties[i]=d at*
  exact ⟨Dq (p:=.string d.name::(Ad d.farm++Ad d.reach)) (q:=[]) _ (BE g1) (.inr a) e (by simp) rfl j,trivial⟩
theorem LM(h:Ba N w L cs x)(l:w.rangeAt L.s 0 cs){Bs:Nat}(d:w.cell? ⟨Bs,0,none⟩=some (.pointer (some ⟨L.s,0,none⟩))):JW L Bs w:=by
 obtain ⟨c0,c1,c2,rfl,u,g1,t⟩:=h.cells
 have m:=u.len;have j:=g1.len;have k:=t.len
 have a:=Bn (p:=.string x.name::(c0++(c1++c2))) (c:=[L.lets.v,L.crops.v,L.reaches.v,L.farms.v,L.rots.v,L.rights.v,L.duties.v]) (q:=[]) (o:=0) (b:=L.s) (w:=w) (by simpa using l)
 have hl:(Value.string x.name::(c0++(c1++c2))).length=19:=by simp[m,j,k]
 rw[hl] at a
 refine ⟨d,a 0 _ rfl,a 1 _ rfl,a 2 _ rfl,a 3 _ rfl,a 4 _ rfl,a 5 _ rfl,a 6 _ rfl,fun i hi=>?_⟩
 obtain ⟨h1,h2,h3⟩:=h.rots
 obtain ⟨b,o,cs,r,y,z,n,_,_,f,e,g,rfl,e0,e1,e2,_⟩:=h3 i (by omega)
 rw[BE r]
 have:=Bn (p:=.string (x.rots[i]'(by omega)).name::(Ad (x.rots[i]'(by omega)).on++(iV (x.rots[i]'(by omega)).rank::(f++(e++g))))) (c:=[(A5 L i).v]) (q:=[]) (o:=o+i*23) (b:=b) (w:=w) (by simpa using n)
 have hl:(Value.string (x.rots[i]'(by omega)).name::(Ad (x.rots[i]'(by omega)).on++(iV (x.rots[i]'(by omega)).rank::(f++(e++g))))).length=22:=by simp[A9,e0.len,e1.len,e2.len]
 rw[hl] at this
 exact this 0 _ rfl
end
structure Us where
 b:Nat
 o:Nat
 to:Int
 at_:Int
 name:ByteArray
 n:Int
def Us.v(u:Us):Array Value:=#[.agg #[.pointer (some ⟨u.b,u.o,none⟩),.int .i64 u.to,.int .i64 u.at_]]
def Kq(op:Int)(len:Nat):Bool:=decide (1<=op)&&(decide (op<=6)&&(if 3<=op then decide (len=2) else decide (len=0)))
def KP(op lt:Int):Int:=if op=2 then (if 0 < lt then 2 else 1) else 0
def P0(op lt:Int):Int:=if op=2 then (if 0 < lt then lt - 1 else 0) else 0
mutual
def CS(w:World)(lt:Int):Ex->Nat->Nat->List Us × Bool
 |.mk op _ _ rn ri args,b,o=>if Kq op args.length then (⟨b,o+3,KP op lt,P0 op lt,rn,ri⟩::(Ce w lt args (w.cell? ⟨b,o+5,none⟩) 0).1,(Ce w lt args (w.cell? ⟨b,o+5,none⟩) 0).2) else ([],false)
def Ce(w:World)(lt:Int):List Ex->Option Value->Nat->List Us × Bool
 |[],_,_=>([],true)
 |e::r,v,i=>match v with
  |some (.slice (some ⟨b,o,none⟩) _ _)=>if (CS w lt e b (o+i*6)).2 then ((CS w lt e b (o+i*6)).1++(Ce w lt r v (i+1)).1,(Ce w lt r v (i+1)).2) else ((CS w lt e b (o+i*6)).1,false)
  |_=>([],false)
end
theorem Ni{w:World}{lt:Int}{b o n c:Nat}{e:Ex}:∀(l:List Ex) (i:Nat),Ce w lt (l++[e]) (some (.slice (some ⟨b,o,none⟩) n c)) i=
  if (Ce w lt l (some (.slice (some ⟨b,o,none⟩) n c)) i).2 then ((Ce w lt l (some (.slice (some ⟨b,o,none⟩) n c)) i).1++(CS w lt e b (o+(i+l.length)*6)).1,(CS w lt e b (o+(i+l.length)*6)).2) else Ce w lt l (some (.slice (some ⟨b,o,none⟩) n c)) i
 |[],i=>by
  simp only[yE,Ce,yK,xG,zO]
  split
  ·rename_i h;simp[h]
  ·rename_i h;simp[h]
 |x::r,i=>by
  simp only[yL,Ce,Ni r (i+1),yC]
  rw[show i+(r.length+1)=i+1+r.length by omega]
  by_cases h1:(CS w lt x b (o+i*6)).2=true
  ·simp only[h1,zO]
   by_cases h2:(Ce w lt r (some (.slice (some ⟨b,o,none⟩) n c)) (i+1)).2=true
   ·simp[h2]
   ·simp[h2]
  ·simp[h1]
theorem Nj{w:World}{lt:Int}{b o n c:Nat}:∀(l m:List Ex) (i:Nat),(Ce w lt l (some (.slice (some ⟨b,o,none⟩) n c)) i).2=false->Ce w lt (l++m) (some (.slice (some ⟨b,o,none⟩) n c)) i=Ce w lt l (some (.slice (some ⟨b,o,none⟩) n c)) i
 |[],m,i,h=>by simp[Ce] at h
 |x::r,m,i,h=>by
  simp only[Ce,yL] at h ⊢
  by_cases h1:(CS w lt x b (o+i*6)).2=true
  ·simp only[h1,zO] at h ⊢
   rw[Nj r m (i+1) h]
  ·simp[h1]
theorem P7{w:World}{lt:Int}{b o n c:Nat}:∀(l m:List Ex) (i:Nat),∃post,(Ce w lt (l++m) (some (.slice (some ⟨b,o,none⟩) n c)) i).1=(Ce w lt l (some (.slice (some ⟨b,o,none⟩) n c)) i).1++post
 |[],m,i=>⟨_,rfl⟩
 |x::r,m,i=>by
  simp only[Ce,yL]
  by_cases h1:(CS w lt x b (o+i*6)).2=true
  ·simp only[h1,zO]
   obtain ⟨post,a⟩:=P7 r m (i+1)
   exact ⟨post,by rw[a];simp⟩
  ·simp only[h1]
   exact ⟨[],by simp⟩
mutual
def SH(w:World)(C:Addr->Prop):Ex->Nat->Nat->Prop
 |.mk op _ _ _ _ args,b,o=>∃a cap,(w.cell? ⟨b,o,none⟩=some (.int .i64 op)∧C ⟨b,o,none⟩)∧(w.cell? ⟨b,o+5,none⟩=some (.slice a args.length cap)∧C ⟨b,o+5,none⟩)∧args.length<=140737488355328∧Lb w C a 0 args
def Lb(w:World)(C:Addr->Prop)(a:Option Addr):Nat->List Ex->Prop
 |_,[]=>True
 |i,e::r=>(∃b o,a=some ⟨b,o,none⟩∧SH w C e b (o+i*6))∧Lb w C a (i+1) r
end
theorem P8{w:World}{C:Addr->Prop}{a:Option Addr}:∀ {l:List Ex} {k:Nat},Lb w C a k l->∀i (h:i < l.length),∃b o,a=some ⟨b,o,none⟩∧SH w C l[i] b (o+(k+i)*6)
 |[],_,_,i,h=>by simp at h
 |e::r,k,hr,i,h=>by
  rw[Lb] at hr
  cases i with
  |zero=>exact hr.1
  |succ i=>
   obtain ⟨b,o,h1,h2⟩:=P8 hr.2 i (by simpa using h)
   exact ⟨b,o,h1,by rw[show k+(i+1)=k+1+i by omega];simpa using h2⟩
theorem SI{w:World}{lt:Int}{b o n c:Nat}{l:List Ex}{i:Nat}(h:i < l.length)(a:(Ce w lt (l.take i) (some (.slice (some ⟨b,o,none⟩) n c)) 0).2=true):
  Ce w lt (l.take (i+1)) (some (.slice (some ⟨b,o,none⟩) n c)) 0=((Ce w lt (l.take i) (some (.slice (some ⟨b,o,none⟩) n c)) 0).1++(CS w lt l[i] b (o+i*6)).1,(CS w lt l[i] b (o+i*6)).2):=by
 have hl:(l.take i).length=i:=by rw[yP];omega
 rw[yr h,Ni,a,yu rfl,hl,yD]
structure Kr (J:Nat->(Nat->Prop)->World->Prop) (O:Nat->Prop) (B0 l By Bi k:Nat) (W:World):Prop where
 j:J k O W
 size:B0<=W.heap.size
 own:∀b,O b->b < W.heap.size
 y:O By∧W.cell? ⟨By,0,none⟩=some (.func (.yield l) #[] #[])
 i:O Bi∧W.cell? ⟨Bi,0,none⟩=some (.func (.func 82) #[] #[.pointer (some ⟨By,0,none⟩),.pointer (some ⟨Bi,0,none⟩)])
section
variable{J:Nat->NP->World->Prop}{Jx:NP->World->Prop}{Jp:List PanicEntry->NP->World->Prop}{O:NP}{B0 l By Bi k k':Nat}{W W':World}
theorem Kr.below(d:Ep J)(h:Kr J O B0 l By Bi k W)(hb:Below W.heap.size W W'):Kr J O B0 l By Bi k W':=
 ⟨d k O W O W' h.j hb.size hb.os hb.tape hb.output (fun b _ c=>hb.block b c) (fun _=>.inl),yo h.size hb.size,fun b a=>yk (h.own b a) hb.size,
  ⟨h.y.1,(hb.cell (p:=⟨By,0,none⟩) (h.own _ h.y.1)).trans h.y.2⟩,⟨h.i.1,(hb.cell (p:=⟨Bi,0,none⟩) (h.own _ h.i.1)).trans h.i.2⟩⟩
theorem Kr.same(h:Kr J O B0 l By Bi k W)(c:J k' O W')(hs:Cd O W W'):Kr J O B0 l By Bi k' W':=
 ⟨c,yo h.size hs.1,fun b a=>yk (h.own b a) hs.1,⟨h.y.1,DV hs h.y.1 h.y.2⟩,⟨h.i.1,DV hs h.i.1 h.i.2⟩⟩
theorem Kr.Xl(h:Kr J O B0 l By Bi k W)(hb:Below W.heap.size W W'):Cd O W W':=⟨hb.size,fun b a=>hb.block b (h.own b a)⟩
def P9(J:Nat->NP->World->Prop)(Jx:NP->World->Prop)(Jp:List PanicEntry->NP->World->Prop)(O:NP)(k:Nat)(ok:Bool)(W:World)(e:Ending)(W':World):Prop:=
 (∃r:Bool,e=.returned (.bool r)∧Cd O W W'∧((r=true∧ok=true∧J k O W')∨(r=false∧Jx O W')))∨∃a,e=.panicked a∧Jp a O W'∧Cd O W W'
theorem P9.from(hs:Cd O W W'){e:Ending}{a:World}{ok:Bool}(h:P9 J Jx Jp O k ok W' e a):P9 J Jx Jp O k ok W e a:=by
 rcases h with ⟨r,h1,h2,h3⟩|h
 ·exact .inl ⟨r,h1,hs.trans h2,h3⟩
 ·obtain ⟨b,h1,h2,h3⟩:=h
  exact .inr ⟨b,h1,h2,hs.trans h3⟩
end
end Go.Proofs.Ytghepahgkcigpaa
namespace Go.Proofs.Ytghepahgkcigpaa
open Go.RowKit Go.Maps Go.ChangeMaps Go.WideMaps Go.MapKept
open Go.WideElems (Fit rd rg pl rd_val elemAt)
theorem Pu:Keyed Try.prog 9:=string_keyed j1
theorem VK(w:World):(zeroValue 3).run Try.prog w=.ok (.int .i64 0) w:=by kernel_rfl
def B9:LB->ByteArray->Option Nat
 |[],_=>none
 |x::r,s=>if x=s then some 0 else (B9 r s).map (·+1)
theorem Ic{l:LB}{s:ByteArray}(h:s∉l):B9 l s=none:=by
 induction l with
 |nil=>rfl
 |cons x r ih=>
  rw[yO,not_or] at h
  rw[B9,yq (fun e=>h.1 e.symm),ih h.2];rfl
theorem Ku{l:LB}{s:ByteArray}(h:s∈l):∃i,B9 l s=some i∧∃h:i < l.length,l[i]=s:=by
 induction l with
 |nil=>simp at h
 |cons x r ih=>
  rw[B9]
  by_cases a:x=s
  ·rw[yu a]
   exact ⟨0,rfl,by simp,by simpa using a⟩
  ·rw[yq a]
   obtain ⟨i,h1,h2,h3⟩:=ih ((yO.1 h).resolve_left (fun e=>a e.symm))
   exact ⟨i+1,by rw[h1];rfl,by simpa using h2,by simpa using h3⟩
theorem QS{l:LB}{x:ByteArray}(h:x∉l)(s:ByteArray):B9 (l++[x]) s=if s=x then some l.length else B9 l s:=by
 induction l with
 |nil=>
  simp only[yE,B9,yK]
  by_cases hs:s=x
  ·rw[yu hs,yu hs.symm]
  ·rw[yq hs,yq (fun e=>hs e.symm)];rfl
 |cons y r ih=>
  rw[yO,not_or] at h
  rw[yL,B9,B9,ih h.2]
  by_cases a:y=s
  ·rw[yu a,yu a]
   by_cases hs:s=x
   ·exact absurd (hs.symm.trans a.symm) h.1
   ·rw[yq hs]
  ·rw[yq a,yq a]
   by_cases hs:s=x
   ·rw[yu hs,yu hs];simp
   ·rw[yq hs,yq hs]
def CH(w:World)(m:Nat)(b:LB):Prop:=
 ∃es a,w.heap[m]?=some (.map es a)∧Fit (H:=Unit) Try.prog 9 (plainElem Try.prog 3) es a∧es.size=b.length∧
  ∀s:ByteArray,s.size<=maxLen->∀c:DataW Unit,(DataW.map ((es.toList.map (rg Try.prog 9 (plainElem Try.prog 3))).foldr DataW.insert [])).atKey (.string s.data.toList) c=(match B9 b s with|some i=>.lit (.int .i64 (i:Int))|none=>c)
theorem LX(w:World):CH (w.alloc (.map #[] 0)) w.heap.size []:=
 ⟨#[],0,(MapKept.heap_alloc w _).1,⟨by simp,stamped_empty 0,by simp⟩,rfl,fun s _ a=>rfl⟩
theorem CH.block{w w':World}{m:Nat}{b:LB}(h:CH w m b)(hb:w'.heap[m]?=w.heap[m]?):CH w' m b:=by
 obtain ⟨es,a,h1,h2⟩:=h
 exact ⟨es,a,hb.trans h1,h2⟩
theorem CH.lt{w:World}{m:Nat}{a:LB}(h:CH w m a):m < w.heap.size:=by
 obtain ⟨es,b,h1,h2⟩:=h
 exact (yd.1 h1).1
theorem CH.size{w:World}{m:Nat}{b:LB}(h:CH w m b):∃es a,w.heap[m]?=some (.map es a)∧es.size=b.length:=by
 obtain ⟨es,a,h1,_,h2,_⟩:=h
 exact ⟨es,a,h1,h2⟩
def JC(a:LB)(s:ByteArray):Value:=
 match B9 a s with
 |some i=>.tuple #[.int .i64 (i:Int),.bool true]
 |none=>.tuple #[.int .i64 0,.bool false]
theorem CH.look{w:World}{m:Nat}{c:LB}(h:CH w m c)(s:ByteArray)(hs:s.size<=maxLen):
  (Instr.lookup 90 (.map (some m)) (.string s) true).run Try.prog w=.ok (JC c s) w:=by
 obtain ⟨es,j,hb,F,_,f⟩:=h
 have d:=keyOf_string_mk (P:=Try.prog) j1 hs
 rcases Maps.fit_look (t:=90) true Pu j2 (VK w) hb F d with ⟨b,_,n⟩|⟨e0,y,_,_,b,o,k,_⟩
 ·rw[b]
  have h1:=n .nil
  rw[f s hs] at h1
  unfold JC
  cases g:B9 c s with
  |none=>rfl
  |some i=>rw[g] at h1;cases h1
 ·rw[b]
  obtain ⟨a,l,e,_⟩:=plainElem_int_inv (H:=Unit) qJ o
  have h1:=k .nil
  rw[f s hs] at h1
  unfold JC
  cases g:B9 c s with
  |none=>rw[g,e] at h1;cases h1
  |some i=>
   rw[g,e] at h1
   simp only[DataW.lit.injEq,Lit.int.injEq,qk] at h1
   rw[l,<-h1];rfl
theorem LY{H:Type}(p:Lit × DataW H):∀l:List (Lit × DataW H),p∈l.foldr DataW.insert []->p∈l
 |[],h=>h
 |x::r,h=>by
  rw[List.foldr_cons,mem_insert_iff] at h
  exact h.elim (fun e=>by rw[e];exact List.mem_cons_self) (fun h=>xj _ (LY p r h))
theorem CH.put{w:World}{m:Nat}{a:LB}(h:CH w m a)(s:ByteArray)(hs:s.size<=maxLen)(u:s∉a)(v:a.length < 1000000):
  ∃w',(Instr.mapUpdate 90 (.map (some m)) (.string s) (.int .i64 (a.length:Int))).run Try.prog w=.ok () w'∧CH w' m (a++[s])∧w.grownBy w' (some m):=by
 obtain ⟨es,q,hb,F,l,k⟩:=h
 have b:=keyOf_string_mk (P:=Try.prog) j1 hs
 have A:plainElem (H:=Unit) Try.prog 3 (iV (a.length:Int))=some (.lit (.int .i64 (a.length:Int)),[]):=plainElem_int qJ (by simp only[Lit.wf,ym,yR];exact ⟨by have:IntKind.min .i64= -9223372036854775808:=rfl;omega,by have:IntKind.max .i64=9223372036854775807:=rfl;omega⟩)
 obtain ⟨g,c,j,F',d,_⟩:=Maps.fit_store (R':=plainElem Try.prog 3) (t:=90) Pu j2 hb F (by unfold maxLen;omega) (fun _ _ _ _ v=>v) b A
 have o:∀x∈es.toList,x.key≠.string s:=by
  rcases Maps.fit_look (t:=90) true Pu j2 (VK w) hb F b with ⟨_,h,_⟩|⟨e0,y,_,_,_,_,r,_⟩
  ·exact h
  ·have h1:=r .nil
   have h2:=r (.lit (.bool true))
   rw[k s hs,Ic u] at h1 h2
   rw[<-h1] at h2
   cases h2
 refine ⟨_,j,⟨g,c,heap_setBlock_same hb _,F',?_,?_⟩,⟨rfl,rfl,rfl,by simp[setBlock],fun i _ hi=>heap_setBlock_other hb _ (fun e=>hi (by rw[e]))⟩⟩
 ·have e1:g.size=((g.toList.map (rg Try.prog 9 (plainElem (H:=Unit) Try.prog 3))).foldr DataW.insert []).length:=by rw[length_sorted];simp
  rw[e1,d]
  unfold putKey
  rw[length_insert]
  have e2:=filter_all Pu F b o
  have B:(((es.toList.map (rg Try.prog 9 (plainElem (H:=Unit) Try.prog 3))).foldr DataW.insert []).filter (notKey (.string s.data.toList)))=((es.toList.map (rg Try.prog 9 (plainElem (H:=Unit) Try.prog 3))).foldr DataW.insert []):=by
   rw[List.filter_eq_self] at e2 ⊢
   exact fun p n=>e2 p (LY p _ n)
  rw[B,length_sorted]
  simp[l]
 ·intro t z C
  rw[d]
  have n:(DataW.map (putKey (.string s.data.toList) (.lit (.int .i64 (a.length:Int))) ((es.toList.map (rg Try.prog 9 (plainElem (H:=Unit) Try.prog 3))).foldr DataW.insert [])))=(DataW.map ((es.toList.map (rg Try.prog 9 (plainElem (H:=Unit) Try.prog 3))).foldr DataW.insert [])).put (.string s.data.toList) (.lit (.int .i64 (a.length:Int))):=rfl
  rw[n,QS u]
  by_cases f:t=s
  ·subst f
   rw[yu rfl,atKey_put_same ⟨_,rfl⟩ (Pu.key b)]
  ·rw[yq f,atKey_put_other (fun e=>f (by simp at e;exact ByteArray.ext (by simpa using e))),k t z]
end Go.Proofs.Ytghepahgkcigpaa
namespace Go.Proofs.Ytghepahgkcigpaa
open Go Go.RowKit
section
variable{P:Program}{ops:Array Oper}{Q:QT}{md:Region.Mode}{T:World->Prop}{k:Nat}
def Ec(P:Program)(md:Region.Mode)(ops:Array Oper)(Q:QT)(T:World->Prop)(k:Nat):Nat->Array Bool->Act->World->Prop
 |0,listed,a,w=>Region.ready md ops listed=[]∧Q .normal a w
 |fuel+1,listed,a,w=>
  (Region.ready md ops listed=[]->Q .normal a w)∧
  ∀i∈Region.ready md ops listed,wpOp P ops Q i (fun b w'=>((listed.setIfInBounds i true).getD k true=false->T w')∧Ec P md ops Q T k fuel (listed.setIfInBounds i true) b w') a w
theorem M3:∀(fuel:Nat) (b:Array Bool) (a:Act) (w:World),Ec P md ops Q T k fuel b a w->wpAny P md ops Q fuel b a w
 |0,_,_,_,h=>h
 |fuel+1,_,_,_,h=>⟨h.1,fun i hi=>wpOp_mono (fun d w' c=>M3 fuel _ d w' c.2) (h.2 i hi)⟩
theorem On{i:Nat}{t:Oper}{v:Value}(hi:ops[i]?=some t)(p:∀(j:Nat) (o:Oper) cs b,ops[j]?=some o->o.op≠.select cs b)
 (O:∀c a w,Q (.panic c) (a.put t.dst v) w->Q (.panic c) a w)(u:k≠i)(I:∀ok,ops[k]?=some ok->∃e∈ok.after,Region.binds md e=true∧e.on=i):
  ∀(fuel:Nat) (d:Array Bool) (a:Act) (w:World),
   (∀j q,ops[j]?=some q->j≠i->d.getD j true=false->(∀e∈q.after,Region.binds md e=true->e.on≠i)->t.apart ops q=true)->
   i∈Region.ready md ops d->YieldsIf P ops T t v a->d.getD k true=false->T w->
   Ec P md ops Q T k fuel (d.setIfInBounds i true) (a.put t.dst v) w->Ec P md ops Q T k (fuel+1) d a w:=by
 intro fuel
 induction fuel with
 |zero=>
  intro d a w _ s D z B H
  refine ⟨fun h=>(by rw[h] at s;cases s),fun j E=>?_⟩
  by_cases f:j=i
  ·subst f;exact D.wpOp hi B ⟨fun _=>B,H⟩
  ·have:=ready_mono E f
   rw[H.1] at this
   cases this
 |succ fuel ih=>
  intro d a w g s D z B H
  refine ⟨fun h=>(by rw[h] at s;cases s),fun j E=>?_⟩
  by_cases f:j=i
  ·subst f;exact D.wpOp hi B ⟨fun _=>B,H⟩
  ·have h1:=H.2 j (ready_mono E f)
   obtain ⟨r,q,l,y⟩:=xq.1 E
   have n:∀e∈q.after,Region.binds md e=true->e.on≠i:=fun e L hb K=>by
    have h1:=y e L hb
    have h0:=(xq.1 s).1
    rw[K] at h1
    rcases zV i d.size with F|F
    ·simp[F] at h0 h1;rw[h0] at h1;cases h1
    ·simp[xm F] at h1
   have C:k≠j:=fun e=>by
    subst e
    obtain ⟨e,L,hb,G⟩:=I q l
    exact n e L hb G
   have h2:=wpOp_putIf l (g j q l f r n) (fun cs b=>p i t cs b hi) (fun cs b=>p j q cs b l) O D h1
   have m:∀k ok,ops[k]?=some ok->k≠i->(d.setIfInBounds j true).getD k true=false->
     (∀e∈ok.after,Region.binds md e=true->e.on≠i)->t.apart ops ok=true:=fun k ok z u x J=>by
    refine g k ok z u ?_ J
    by_cases A:j=k
    ·subst A;exact r
    ·rw[xi true A] at x;exact x
   have M:(d.setIfInBounds j true).getD k true=false:=by rw[xi true (xr C)];exact z
   refine wpOp_mono (fun R w' h3=>?_) h2
   have N:T w':=h3.2.1 (by rw[xi true (xr C),xi true (xr u)];exact z)
   refine ⟨fun _=>N,ih (d.setIfInBounds j true) R w' m (ready_mono s (xr f)) h3.1 M N ?_⟩
   rw[Array.setIfInBounds_comm _ _ f]
   exact h3.2.2
theorem MV{i:Nat}{t:Oper}{v:Value}(hi:ops[i]?=some t)(n:∀(j:Nat) (o:Oper) cs b,ops[j]?=some o->o.op≠.select cs b)
 (K:∀c a w,Q (.panic c) (a.put t.dst v) w->Q (.panic c) a w)(l:k≠i):
  ∀(fuel:Nat) (d:Array Bool) (a:Act) (w:World),
   (∀j s,ops[j]?=some s->j≠i->d.getD j true=false->(∀e∈s.after,Region.binds md e=true->e.on≠i)->t.apart ops s=true)->
   i∈Region.ready md ops d->YieldsIf P ops (fun _=>True) t v a->(d.getD k true=false->T w)->
   Ec P md ops Q T k fuel (d.setIfInBounds i true) (a.put t.dst v) w->Ec P md ops Q T k (fuel+1) d a w:=by
 intro fuel
 induction fuel with
 |zero=>
  intro d a w _ q C E H
  refine ⟨fun h=>(by rw[h] at q;cases q),fun j D=>?_⟩
  by_cases f:j=i
  ·subst f;exact C.wpOp hi trivial ⟨fun h=>E (by rw[xi true (xr l)] at h;exact h),H⟩
  ·have:=ready_mono D f
   rw[H.1] at this
   cases this
 |succ fuel ih=>
  intro d a w g q C E H
  refine ⟨fun h=>(by rw[h] at q;cases q),fun j D=>?_⟩
  by_cases f:j=i
  ·subst f;exact C.wpOp hi trivial ⟨fun h=>E (by rw[xi true (xr l)] at h;exact h),H⟩
  ·have h1:=H.2 j (ready_mono D f)
   obtain ⟨p,s,r,y⟩:=xq.1 D
   have z:∀e∈s.after,Region.binds md e=true->e.on≠i:=fun e M hb G=>by
    have h1:=y e M hb
    have h0:=(xq.1 q).1
    rw[G] at h1
    rcases zV i d.size with u|u
    ·simp[u] at h0 h1;rw[h0] at h1;cases h1
    ·simp[xm u] at h1
   have h2:=wpOp_putIf r (g j s r f p z) (fun cs b=>n i t cs b hi) (fun cs b=>n j s cs b r) K C h1
   have m:∀k ok,ops[k]?=some ok->k≠i->(d.setIfInBounds j true).getD k true=false->
     (∀e∈ok.after,Region.binds md e=true->e.on≠i)->t.apart ops ok=true:=fun k ok J l x F=>by
    refine g k ok J l ?_ F
    by_cases A:j=k
    ·subst A;exact p
    ·rw[xi true A] at x;exact x
   refine wpOp_mono (fun L w' h3=>?_) h2
   have I:(d.setIfInBounds j true).getD k true=false->T w':=fun h=>h3.2.1 (by
    by_cases B:k=j
    ·subst B
     rcases zV k d.size with u|u
     ·simp[u] at h
     ·simp at h
    ·rw[xi true (xr B)] at h ⊢
     rw[xi true (xr l)];exact h)
   refine ⟨I,ih (d.setIfInBounds j true) L w' m (ready_mono q (xr f)) h3.1 I ?_⟩
   rw[Array.setIfInBounds_comm _ _ f]
   exact h3.2.2
theorem A0{i:Nat}{d:Oper}{v:Value}{fuel:Nat}{b:Array Bool}{a:Act}{w:World}(hi:ops[i]?=some d)
 (hs:Region.noSelect ops=true)(e:Region.free md ops b i=true)(l:(Region.ready md ops b).contains i=true)
 (f:∀c a w,Q (.panic c) (a.put d.dst v) w->Q (.panic c) a w)(j:(k !=i)=true)(g:YieldsIf P ops (fun _=>True) d v a)(m:b.getD k true=false->T w)
 (h:Ec P md ops Q T k fuel (b.setIfInBounds i true) (a.put d.dst v) w):Ec P md ops Q T k (fuel+1) b a w:=
 MV hi (Region.noSelect_spec hs) f (by simpa using j) fuel b a w (Region.free_spec hi e) (by simpa using l) g m h
def U0(md:Region.Mode)(ops:Array Oper)(k i:Nat):Bool:=match ops[k]? with
 |none=>false
 |some o=>o.after.any fun e=>Region.binds md e&&e.on==i
theorem Ag{i:Nat}{f:Oper}{v:Value}{fuel:Nat}{b:Array Bool}{a:Act}{w:World}(hi:ops[i]?=some f)
 (hs:Region.noSelect ops=true)(j:Region.free md ops b i=true)(m:(Region.ready md ops b).contains i=true)
 (n:∀c a w,Q (.panic c) (a.put f.dst v) w->Q (.panic c) a w)(d:(k !=i&&!b.getD k true&&U0 md ops k i)=true)(l:YieldsIf P ops T f v a)(o:T w)
 (h:Ec P md ops Q T k fuel (b.setIfInBounds i true) (a.put f.dst v) w):Ec P md ops Q T k (fuel+1) b a w:=by
 simp only[ym,qq,Bool.not_eq_true'] at d
 refine On hi (Region.noSelect_spec hs) n d.1.1 (fun ok g=>?_) fuel b a w (Region.free_spec hi j) (by simpa using m) l d.1.2 o h
 have:=d.2
 unfold U0 at this
 rw[g] at this
 simp only[xY,ym,beq_iff_eq] at this
 obtain ⟨e,p,h1,h2⟩:=this
 exact ⟨e,p,h1,h2⟩
theorem A4{i:Nat}{o:Oper}{fuel:Nat}{b:Array Bool}{a:Act}{w:World}(c:Region.ready md ops b=[i])(f:ops[i]?=some o)
 (h:∀K:Act->World->Prop,Hid (∀a w,((b.setIfInBounds i true).getD k true=false->T w)->Ec P md ops Q T k fuel (b.setIfInBounds i true) a w->K a w)->if Region.wanted o (yielded ops a.tmps)=true then Oper.wp P o a w K Q else K (a.put o.dst undef) w):Ec P md ops Q T k (fuel+1) b a w:=by
 refine ⟨fun h0=>(by rw[c] at h0;cases h0),fun j d=>?_⟩
 rw[c] at d
 obtain rfl:=zg.1 d
 exact wpOp_step f (fun l m=>h l (ya fun a w g e=>m a w ⟨g,e⟩))
theorem AG{fuel:Nat}{b:Array Bool}{a:Act}{w:World}(c:Region.ready md ops b=[])(h:Q .normal a w):Ec P md ops Q T k fuel b a w:=by
 cases fuel with
 |zero=>exact ⟨c,h⟩
 |succ n=>exact ⟨fun _=>h,by rw[c];simp⟩
theorem Bz{id:Nat}{a:Act}{w:World}(b:P.follows .mixedOrders=true)(T:World->Prop)(k:Nat)
 (h:Ec P .any ops Q T k ops.size (Array.replicate ops.size false) a w.drew):(Code.region id ops true).wp P Q a w:=
 wp_region_any b (M3 _ _ _ _ h)
end
end Go.Proofs.Ytghepahgkcigpaa
namespace Go.Proofs.Ytghepahgkcigpaa
open Go.RowKit
section
variable{P:Program}{ops:Array Oper}{rest:List Oper}{o:Oper}{a:Act}{w:World}{Q:QT}
theorem AR(b:o.guard=none)(ty:TypeId)(x:Operand)(c:o.op=.box ty x)(cs:Array Value)(d:a.eval x=.agg cs)
 (h:wpList P ops Q rest (a.put o.dst (.pointer (some ⟨w.heap.size,0,none⟩))) (w.alloc (.cells cs ty))):wpList P ops Q (o::rest) a w:=
 yF b fun K e=>by
  unfold Oper.wp execOp
  simp only[c,d,Instr.box,newVar,newRow,Value.cells,qm,run_newObj_alloc,qb,xO]
  exact e _ _ h
theorem Ou{j:Nat}{b g:Bool}(c:o.guard=some (j,b))(x:Operand)(i:o.op=.move x)(f:yielded ops a.tmps j=some g)
 (h:wpList P ops Q rest (a.put o.dst (if g=b then a.eval x else undef)) w):wpList P ops Q (o::rest) a w:=by
 refine wpList_step fun K k=>?_
 have d:=k _ _ h
 by_cases e:g=b
 ·rw[yu (by simp[Region.wanted,c,f,e])]
  rw[yu e] at d
  unfold Oper.wp execOp
  simp only[i,qb]
  exact d
 ·rw[yq (by simp[Region.wanted,c,f,e])]
  rw[yq e] at d
  exact d
theorem Ak{g:Bool}(b:o.guard=none)(c x y:Operand)(d:o.op=.pick c x y)(hc:a.eval c=.bool g)(v:Value)(e:(if g then a.eval x else a.eval y)=v)
 (h:wpList P ops Q rest (a.put o.dst v) w):wpList P ops Q (o::rest) a w:=
 yF b fun K f=>by
  subst e
  unfold Oper.wp execOp
  simp only[d,hc,asBool,qm,qb,xO]
  exact f _ _ h
theorem Ct(g:o.guard=none)(t e:TypeId)(x:Operand)(k:o.op=.buildSlice t 1 #[(0,x)])(cs:LV)(m:a.eval x=.agg cs.toArray)
 (n:Nat)(p:P.underlying t=some (.slice e))(hi:((P.info? e).bind fun i=>i.zero.map fun z=>(i.size,z.cells.size))=some (n,n))(l:cs.length=n)(c:0 < n)(d:n<=1000)
 (h:wpList P ops Q rest (a.put o.dst (.slice (some ⟨w.heap.size,0,none⟩) 1 1)) (w.alloc (.cells cs.toArray e))):wpList P ops Q (o::rest) a w:=by
 cases b:P.info? e with
 |none=>simp[b] at hi
 |some ie=>
  cases f:ie.zero with
  |none=>simp[b,f] at hi
  |some z=>
   simp only[b,f,xC,xK,yZ,zo] at hi
   obtain ⟨h1,h2⟩:=hi
   refine wpList_buildSlice g t e 1 _ k _ ie z p b f (by rw[h1];omega) (by rw[h1];omega) ?_ h
   have hs:((Array.range (1*ie.size)).map (z.cells[· % z.cells.size]!)).size=1*n:=by simp[h1]
   rw[h1] at hs ⊢
   generalize (Array.range (1*n)).map (z.cells[· % z.cells.size]!)=j at hs ⊢
   have:=Great.fill_whole (s:=n) c [.agg cs.toArray] j (by simp[Value.cells,l]) (by rw[hs];rfl)
   simp only[qd,List.zipIdx_nil,zG,xh,yY,zB,yG,Value.cells] at this
   simpa[m] using this
theorem N0(j:o.guard=none)(t e:TypeId)(x y:Operand)(m:o.op=.buildSlice t 2 #[(0,x),(1,y)])(c0 c1:LV)(q:a.eval x=.agg c0.toArray)(l:a.eval y=.agg c1.toArray)
 (n:Nat)(r:P.underlying t=some (.slice e))(hi:((P.info? e).bind fun i=>i.zero.map fun z=>(i.size,z.cells.size))=some (n,n))(p:c0.length=n)(f:c1.length=n)(c:0 < n)(d:n<=1000)
 (h:wpList P ops Q rest (a.put o.dst (.slice (some ⟨w.heap.size,0,none⟩) 2 2)) (w.alloc (.cells (c0++c1).toArray e))):wpList P ops Q (o::rest) a w:=by
 cases b:P.info? e with
 |none=>simp[b] at hi
 |some ie=>
  cases g:ie.zero with
  |none=>simp[b,g] at hi
  |some z=>
   simp only[b,g,xC,xK,yZ,zo] at hi
   obtain ⟨h1,h2⟩:=hi
   refine wpList_buildSlice j t e 2 _ m _ ie z r b g (by rw[h1];omega) (by rw[h1];omega) ?_ h
   have hs:((Array.range (2*ie.size)).map (z.cells[· % z.cells.size]!)).size=2*n:=by simp[h1]
   rw[h1] at hs ⊢
   generalize (Array.range (2*n)).map (z.cells[· % z.cells.size]!)=k at hs ⊢
   have:=Great.fill_whole (s:=n) c [.agg c0.toArray,.agg c1.toArray] k (by simp[Value.cells,p,f]) (by rw[hs];rfl)
   simp only[qd,List.zipIdx_nil,zG,xh,yY,zB,yG,Value.cells] at this
   simpa[q,l] using this
end
theorem N3{v:Value}(a:v.cells=#[v])(ty:TypeId)(p:Addr):storeVar ty p v=storeVar ty p (.agg #[v]):=by
 unfold storeVar
 rw[a]
 rfl
theorem IC{P:Program}{ops:Array Oper}{rest:List Oper}{op:Oper}{a:Act}{w:World}{Q:QT}(c:op.guard=none)(ty:TypeId)(x y:Operand)(e:op.op=.store ty x y)
 (b o:Nat)(v:Value)(j:a.eval x=.pointer (some ⟨b,o,none⟩))(d:a.eval y=v)(g:v.cells=#[v])
 (f:w.there b o 1)(hi:(P.info? ty).map (·.size)=some 1)(h1:v.oneCell'=true)
 (h:wpList P ops Q rest (a.put op.dst undef) (w.setCells b o [v])):wpList P ops Q (op::rest) a w:=
 yF c fun K i=>by
  unfold Oper.wp execOp
  simp only[e,j,d,Instr.storeAt,Instr.sureAddr,qm,qb,xO,N3 g,run_storeVar_mid w b o ty #[v] f hi (by simpa using h1)]
  exact i _ _ h
def Ue(g:Bool)(a b:Value):Value:=if g then a else b
theorem Aa(g:Bool)(a:Value):Ue g a a=a:=by cases g<;>rfl
def CW(g:Bool):LV->LV->LV
 |a::l,b::m=>Ue g a b::CW g l m
 |_,_=> []
theorem Mi:∀ {l m:LV},l.length=m.length->CW true l m=l
 |[],[],_=>rfl
 |a::l,b::m,h=>by rw[CW,Mi (by simpa using h)];rfl
 |[],_::_,h=>by simp at h
 |_::_,[],h=>by simp at h
theorem KA:∀ {l m:LV},l.length=m.length->CW false l m=m
 |[],[],_=>rfl
 |a::l,b::m,h=>by rw[CW,KA (by simpa using h)];rfl
 |[],_::_,h=>by simp at h
 |_::_,[],h=>by simp at h
theorem Vh{K:Act->World->Prop}{g:Bool}{l m:LV}{ds:List Deferred}{w:World}(hl:l.length=m.length)(h:K {tmps:=(CW g l m).toArray,defers:=ds} w):
  if g=true then K {tmps:=l.toArray,defers:=ds} w else K {tmps:=m.toArray,defers:=ds} w:=by
 cases g
 ·rw[KA hl] at h;simpa using h
 ·rw[Mi hl] at h;simpa using h
theorem Ab{c:Prop}[Decidable c]{K:Act->World->Prop}{g:Bool}(hc:c↔g=true){l m:LV}{ds:List Deferred}{w:World}(hl:l.length=m.length)(h:K {tmps:=(CW g l m).toArray,defers:=ds} w):
  if c then K {tmps:=l.toArray,defers:=ds} w else K {tmps:=m.toArray,defers:=ds} w:=by
 cases g
 ·rw[KA hl] at h;rw[yq (by simp[hc])];exact h
 ·rw[Mi hl] at h;rw[yu (by simp[hc])];exact h
theorem AD(g y:Bool)(u:Value):(if g=true then Ue g (.bool y) u else .bool false)=.bool (g&&y):=by cases g<;>rfl
end Go.Proofs.Ytghepahgkcigpaa
namespace Go.Proofs.Ytghepahgkcigpaa
open Go
structure KC (ops:Array Oper) (a₀:Act) (Ext:Array Bool->Array Value->World->Prop) (Pp:Nat->Value->World->Prop) (listed:Array Bool) (a:Act) (w:World):Prop where
 size:listed.size=ops.size
 down:∀m,listed.getD m false=true->∀o,ops[m]?=some o->∀e∈o.after,Region.binds .any e=true->listed.getD e.on false=true
 ext:Ext listed a.tmps w
 defers:a.defers=a₀.defers
 tmps:a.tmps.size=a₀.tmps.size
 done:∀i,listed.getD i false=true->∀o t,ops[i]?=some o->o.dst=some t->Pp i (a.tmps.getD t undef) w
 free:∀k,(∀i,listed.getD i false=true->∀o,ops[i]?=some o->o.dst≠some k)->a.tmps.getD k undef=a₀.tmps.getD k undef
theorem Bw{a:Act}{t:Nat}(v:Value)(h:t < a.tmps.size):(a.put (some t) v).tmps.getD t undef=v:=by
 simp[Act.put,h]
theorem D5{a:Act}{t k:Nat}(v:Value)(h:t≠k):(a.put (some t) v).tmps.getD k undef=a.tmps.getD k undef:=by
 simp[Act.put,h]
def H8(ops:Array Oper):Bool:=(ops.toList.filterMap (·.dst)).Nodup&&(List.range ops.size).all fun i=>(ops[i]?).all fun o=>o.after.all fun e=>decide (e.on < i)||!Region.binds .any e
def IU(n:Nat)(ops:Array Oper):Bool:=ops.all fun o=>o.dst.all fun t=>decide (t < n)
theorem Sk:∀ {l:List Oper},(l.filterMap (·.dst)).Nodup->∀ {i j:Nat} {c d:Oper} {t:Tmp},l[i]?=some c->l[j]?=some d->c.dst=some t->d.dst=some t->i=j
 |[],_,i,_,_,_,_,h,_,_,_=>by simp at h
 |x::r,hn,i,j,c,d,t,hi,b,di,dj=>by
  have g:(r.filterMap (·.dst)).Nodup:=by
   rw[List.filterMap_cons] at hn
   split at hn
   ·exact hn
   ·exact (List.nodup_cons.1 hn).2
  have a:∀ {k:Nat} {o:Oper},r[k]?=some o->o.dst=some t->x.dst≠some t:=by
   intro k o f hd e
   rw[List.filterMap_cons,e] at hn
   exact (List.nodup_cons.1 hn).1 (List.mem_filterMap.2 ⟨o,xv f,hd⟩)
  cases i with
  |zero=>
   cases j with
   |zero=>rfl
   |succ j=>
    simp only[xX,yZ] at hi
    subst hi
    exact (a (by simpa using b) dj di).elim
  |succ i=>
   cases j with
   |zero=>
    simp only[xX,yZ] at b
    subst b
    exact (a (by simpa using hi) di dj).elim
   |succ j=>exact yz (·+1) (Sk g (by simpa using hi) (by simpa using b) di dj)
variable{P:Program}{ops:Array Oper}{Q:QT}
theorem Oz{l:Array Bool}{i:Nat}(h:l.getD i false=true):i < l.size:=by
 rcases zV i l.size with a|a
 ·exact a
 ·simp[xm a] at h
def Mq(ops:Array Oper):Nat->Nat->Nat->Bool
 |0,_,_=>false
 |f+1,j,i=>(ops[j]?).any fun o=>o.after.any fun e=>Region.binds .any e&&(e.on==i||Mq ops f e.on i)
theorem A3{a:Array Bool}(hd:∀m,a.getD m false=true->∀o,ops[m]?=some o->∀e∈o.after,Region.binds .any e=true->a.getD e.on false=true):
  ∀(f j i:Nat),Mq ops f j i=true->a.getD j false=true->a.getD i false=true
 |0,_,_,h,_=>by cases h
 |f+1,j,i,h,hj=>by
  rw[Mq] at h
  cases c:ops[j]? with
  |none=>rw[c] at h;cases h
  |some o=>
   rw[c,Option.any_some,xY] at h
   obtain ⟨e,d,b⟩:=h
   simp only[ym,Bool.or_eq_true,beq_iff_eq] at b
   have hl:=hd j hj o c e d b.1
   rcases b.2 with h2|h2
   ·rw[<-h2];exact hl
   ·exact A3 hd f e.on i h2 hl
theorem KC.next{H:Act}{q:Array Bool->Array Value->World->Prop}{D:Nat->Value->World->Prop}{S:Nat->World->World->Prop}(x:H8 ops=true)(r:IU H.tmps.size ops=true)
 (K:∀i j v w w',j≠i->(∀f,Mq ops f j i=false)->S i w w'->D j v w->D j v w'){b:Array Bool}{a:Act}{w:World}(h:KC ops H q D b a w){i:Nat}{o:Oper}(hi:i∈Region.ready .any ops b)(g:ops[i]?=some o)
 {v:Value}{w':World}(X:q (b.setIfInBounds i true) (a.put o.dst v).tmps w')(L:S i w w')(T:D i v w'):KC ops H q D (b.setIfInBounds i true) (a.put o.dst v) w':=by
 obtain ⟨p,y,I,A⟩:=xq.1 hi
 obtain rfl:y=o:=yh (I.symm.trans g)
 have z:i < b.size:=by rw[h.size];exact (yd.1 g).1
 have n:∀ {m:Nat},(b.setIfInBounds i true).getD m false=true->m=i∨b.getD m false=true:=by
  intro m d
  by_cases e:i=m
  ·exact .inl e.symm
  ·rw[xi false e] at d;exact .inr d
 unfold H8 at x
 rw[ym,yR] at x
 have C:∀ {i j:Nat} {R Q:Oper} {t:Tmp},ops[i]?=some R->ops[j]?=some Q->R.dst=some t->Q.dst=some t->i=j:=fun hi V U W=>
  Sk x.1 (by simpa using hi) (by simpa using V) U W
 have J:∀ {i:Nat} {o:Oper} {t:Tmp},ops[i]?=some o->o.dst=some t->t < H.tmps.size:=by
  intro i o t g hd
  unfold IU at r
  rw[zt] at r
  have:=r o (xt g)
  rw[hd] at this
  simpa using this
 refine ⟨by simp[h.size],?_,X,?_,?_,?_,?_⟩
 ·intro m d F c e B hb
  rcases n d with rfl|d
  ·obtain rfl:=yh (c.symm.trans g)
   exact getD_set_true (A e B hb)
  ·exact getD_set_true (h.down m d F c e B hb)
 ·rw[<-h.defers];unfold Act.put;cases y.dst<;>rfl
 ·rw[<-h.tmps];unfold Act.put;cases y.dst<;>simp
 ·intro m d F t c hd
  by_cases e:m=i
  ·subst e
   obtain rfl:=yh (c.symm.trans g)
   rw[hd,Bw _ (by rw[h.tmps];exact J g hd)]
   exact T
  ·have G:=(n d).resolve_left e
   have M:∀f,Mq ops f m i=false:=by
    intro f
    rw[yj]
    intro hb
    have E:=A3 h.down f m i hb G
    simp[z] at p E
    rw[E] at p;cases p
   have l:=K _ _ _ _ _ e M L (h.done m G F t c hd)
   cases s:y.dst with
   |none=>exact l
   |some u=>
    rw[D5 _ (fun O=>e (C c g hd (by rw[s,O])))]
    exact l
 ·intro k P
  have N:=h.free k (fun m d F c=>P m (getD_set_true d) F c)
  rw[<-N]
  cases s:y.dst with
  |none=>rfl
  |some u=>
   refine D5 _ (fun O=>?_)
   refine P i ?_ y g (by rw[s,O])
   simp[z]
theorem Mr(c:H8 ops=true){a:Array Bool}(hs:a.size=ops.size)(h:Region.ready .any ops a=[]):∀i,i < ops.size->a.getD i false=true:=by
 intro i
 induction i using Nat.strongRecOn with
 |ind i ih=>
  intro hi
  by_cases hl:a.getD i false=true
  ·exact hl
  ·exfalso
   have d:a.getD i true=false:=by
    have:i < a.size:=by omega
    simp[this] at hl ⊢
    exact hl
   have b:i∈Region.ready .any ops a:=by
    refine xq.2 ⟨d,ops[i],by simp[hi],fun e j g=>?_⟩
    have f:e.on < i:=by
     unfold H8 at c
     rw[ym,yM] at c
     have h1:=c.2 i (yW.2 hi)
     simp only[Array.getElem?_eq_getElem hi,Option.all_some,zt] at h1
     have h2:=h1 e j
     rw[g] at h2
     simpa using h2
    exact ih e.on f (by omega)
   rw[h] at b
   cases b
theorem T6{A:Act}{k:Array Bool->Array Value->World->Prop}{u:Nat->Value->World->Prop}{F:Nat->World->World->Prop}(z:H8 ops=true)(E:IU A.tmps.size ops=true)
 (C:∀i j v w w',j≠i->(∀f,Mq ops f j i=false)->F i w w'->u j v w->u j v w')
 (t:∀i b a w,KC ops A k u b a w->i∈Region.ready .any ops b->∀o,ops[i]?=some o->wpOp P ops Q i (fun H w'=>∃v,H=a.put o.dst v∧k (b.setIfInBounds i true) (a.put o.dst v).tmps w'∧F i w w'∧u i v w') a w)
 (q:∀b a w,(∀i,i < ops.size->b.getD i false=true)->KC ops A k u b a w->Q .normal a w):
  ∀(fuel:Nat) (b:Array Bool) (a:Act) (w:World),(∀i,i < ops.size->b.getD i false=true)∨((List.range ops.size).filter fun i=>!b.getD i false).length<=fuel->KC ops A k u b a w->wpAny P .any ops Q fuel b a w:=by
 intro fuel
 induction fuel with
 |zero=>
  intro b a w s hM
  have n:∀i,i < ops.size->b.getD i false=true:=by
   rcases s with s|s
   ·exact s
   ·intro i hi
    have h0:=yX.1 (Nat.le_zero.1 s)
    have:=List.filter_eq_nil_iff.1 h0 i (yW.2 hi)
    simpa using this
  refine ⟨?_,q _ _ _ n hM⟩
  cases B:Region.ready .any ops b with
  |nil=>rfl
  |cons i r=>
   exfalso
   have hi:i∈Region.ready .any ops b:=by rw[B];simp
   obtain ⟨c,o,x,_⟩:=xq.1 hi
   have d:=(yd.1 x).1
   have:=n i d
   have m:i < b.size:=by rw[hM.size];exact d
   simp[m] at c this
   rw[this] at c;cases c
 |succ fuel ih=>
  intro b a w s hM
  refine ⟨fun B=>q _ _ _ (Mr z hM.size B) hM,fun i hi=>?_⟩
  obtain ⟨c,o,x,_⟩:=xq.1 hi
  have d:=(yd.1 x).1
  have m:i < b.size:=by rw[hM.size];exact d
  have g:b.getD i false=false:=by simp[m] at c ⊢;exact c
  refine wpOp_mono (fun H w' K=>?_) (t i b a w hM hi o x)
  obtain ⟨v,rfl,L,D,J⟩:=K
  refine ih _ _ _ (.inr ?_) (hM.next z E C hi x L D J)
  have I:=s.resolve_left (fun h=>by rw[h i d] at g;cases g)
  have y:((List.range ops.size).filter fun j=>!(b.setIfInBounds i true).getD j false)=((List.range ops.size).filter fun j=>!b.getD j false).filter fun j=>decide (j≠i):=by
   rw[List.filter_filter]
   refine List.filter_congr fun j _=>?_
   by_cases e:i=j
   ·subst e;simp[m]
   ·rw[xi false e];simp[xr e]
  rw[y]
  have G:=(List.length_filter_lt_length_iff_exists (p:=fun j=>decide (j≠i)) (l:=(List.range ops.size).filter fun j=>!b.getD j false)).2 ⟨i,List.mem_filter.2 ⟨yW.2 d,by rw[g];rfl⟩,by simp⟩
  omega
theorem N6{id:Nat}{h:Act}{s:World}(t:P.follows .mixedOrders=true)(d:Array Bool->Array Value->World->Prop)(k:Nat->Value->World->Prop)(r:Nat->World->World->Prop)(q:H8 ops=true)(p:IU h.tmps.size ops=true)
 (n:∀i j v w w',j≠i->(∀f,Mq ops f j i=false)->r i w w'->k j v w->k j v w')(h0:d (Array.replicate ops.size false) h.tmps s.drew)
 (g:∀i b a w,KC ops h d k b a w->i∈Region.ready .any ops b->∀o,ops[i]?=some o->wpOp P ops Q i (fun u w'=>∃v,u=a.put o.dst v∧d (b.setIfInBounds i true) (a.put o.dst v).tmps w'∧r i w w'∧k i v w') a w)
 (l:∀b a w,(∀i,i < ops.size->b.getD i false=true)->KC ops h d k b a w->Q .normal a w):(Code.region id ops true).wp P Q h s:=by
 refine wp_region_any t ?_
 have e:∀i,(Array.replicate ops.size false).getD i false=false:=fun i=>by
  simp[Array.getElem?_replicate];split<;>rfl
 refine T6 q p n g l ops.size _ h _ (.inr ?_) ⟨by simp,fun m c=>?_,h0,rfl,rfl,fun m c=>?_,fun _ _=>rfl⟩
 ·exact yo (List.length_filter_le _ _) (by simp)
 ·rw[e] at c;cases c
 ·rw[e] at c;cases c
def Ez(id:Nat):Code->Option (Array Oper)
 |.region i ops _=>if i=id then some ops else none
 |.seq x y=>(Ez id x).or (Ez id y)
 |.cond _ x y=>(Ez id x).or (Ez id y)
 |.block _ x=>Ez id x
 |.loop x=>Ez id x
 |.rangeFunc _ _ x y=>(Ez id x).or (Ez id y)
 |.scope x=>Ez id x
 |_=>none
def GS(f:Func)(id:Nat):Option (Array Oper):=f.body.bind (Ez id)
def Uq(c:Array Value->World->Prop)(f:World->World->Prop)(e:Value->World->Prop)(b:Option Tmp)(a:Act)(w:World)(d:Act)(w':World):Prop:=
 ∃v,d=a.put b v∧c (a.put b v).tmps w'∧f w w'∧e v w'
def OA(ops:Array Oper):Bool:=ops.all fun o=>o.guard.isNone
theorem Ee{id:Nat}{h:Act}{r:World}(s:P.follows .mixedOrders=true)(c:Array Bool->Array Value->World->Prop)(g:Nat->Value->World->Prop)(p:Nat->World->World->Prop)(q:H8 ops=true)(n:IU h.tmps.size ops=true)
 (d:OA ops=true)(m:∀i j v w w',j≠i->(∀f,Mq ops f j i=false)->p i w w'->g j v w->g j v w')(h0:c (Array.replicate ops.size false) h.tmps r.drew)
 (e:∀i b a w,KC ops h c g b a w->i∈Region.ready .any ops b->∀o,ops[i]?=some o->o.wp P a w (Uq (c (b.setIfInBounds i true)) (p i) (g i) o.dst a w) Q)
 (k:∀b a w,(∀i,i < ops.size->b.getD i false=true)->KC ops h c g b a w->Q .normal a w):(Code.region id ops true).wp P Q h r:=by
 refine N6 s c g p q n m h0 (fun i b a w hM hi o l=>?_) k
 unfold wpOp
 rw[l]
 have u:o.guard=none:=by
  unfold OA at d
  rw[zt] at d
  simpa using d o (xt l)
 have t:Region.wanted o (yielded ops a.tmps)=true:=by simp[Region.wanted,u]
 simp only[t,zO]
 exact .inl (e i b a w hM hi o l)
theorem KC.Xk{n:Act}{g:Array Bool->Array Value->World->Prop}{l:Nat->Value->World->Prop}{b:Array Bool}{a:Act}{w:World}(h:KC ops n g l b a w){i:Nat}(hi:i∈Region.ready .any ops b)
 (j:Nat)(t:Tmp)(hb:((ops[i]?).any fun o=>o.after.any fun e=>e.on==j&&Region.binds .any e)=true)(hd:(ops[j]?).bind (·.dst)=some t):l j (a.tmps[t]?.getD undef) w:=by
 rw[<-yH]
 obtain ⟨_,o,m,d⟩:=xq.1 hi
 rw[m,Option.any_some,xY] at hb
 obtain ⟨e,p,c⟩:=hb
 simp only[ym,beq_iff_eq] at c
 obtain ⟨rfl,f⟩:=c
 cases k:ops[e.on]? with
 |none=>rw[k] at hd;cases hd
 |some oj=>
  rw[k,xC] at hd
  exact h.done e.on (d e p f) oj t k hd
theorem KC.Xn{g:Act}{f:Array Bool->Array Value->World->Prop}{k:Nat->Value->World->Prop}{b:Array Bool}{a:Act}{w:World}(_:KC ops g f k b a w){i:Nat}(hi:i∈Region.ready .any ops b)
 (j:Nat)(hb:((ops[i]?).any fun o=>o.after.any fun e=>e.on==j&&Region.binds .any e)=true):b.getD j false=true:=by
 obtain ⟨_,o,l,d⟩:=xq.1 hi
 rw[l,Option.any_some,xY] at hb
 obtain ⟨e,h,c⟩:=hb
 simp only[ym,beq_iff_eq] at c
 rw[<-c.1]
 exact d e h c.2
theorem KC.Xj{f:Act}{e:Array Bool->Array Value->World->Prop}{g:Nat->Value->World->Prop}{b:Array Bool}{a:Act}{w:World}(h:KC ops f e g b a w){i:Nat}(hi:i∈Region.ready .any ops b):b.getD i false=false:=by
 obtain ⟨c,o,j,_⟩:=xq.1 hi
 have d:i < b.size:=by rw[h.size];exact (yd.1 j).1
 simp[d] at c ⊢
 exact c
theorem KC.old{n:Act}{l:Array Bool->Array Value->World->Prop}{r:Nat->Value->World->Prop}{b:Array Bool}{a:Act}{w:World}(h:KC ops n l r b a w){i:Nat}(hi:i∈Region.ready .any ops b)
 (k:Tmp)(hb:(ops.all fun o=>o.dst !=some k||o.after.any fun e=>e.on==i&&Region.binds .any e)=true)(v:Value)(s:n.tmps.getD k undef=v):a.tmps[k]?.getD undef=v:=by
 rw[<-yH,<-s]
 refine h.free k fun m q p g hd=>?_
 rw[zt] at hb
 have:=hb p (xt g)
 rw[hd] at this
 simp only[bne_self_eq_false,qu,xY] at this
 obtain ⟨e,t,f⟩:=this
 simp only[ym,beq_iff_eq] at f
 have c:=h.down m q p g e t f.2
 rw[f.1] at c
 have d:=(xq.1 hi).1
 have j:=Oz c
 simp[j] at d c
 rw[c] at d;cases d
theorem Lu{a b:Act}(D:List Nat)(hs:a.tmps.size=b.tmps.size)(hd:a.defers=b.defers)(g:∀k,k∉D->a.tmps.getD k undef=b.tmps.getD k undef):
  a={tmps:=D.foldl (fun t k=>t.setIfInBounds k (a.tmps.getD k undef)) b.tmps,defers:=b.defers}:=by
 have f:∀(D:List Nat) (t:Array Value),t.size=a.tmps.size->(∀k,k∉D->a.tmps.getD k undef=t.getD k undef)->a.tmps=D.foldl (fun t k=>t.setIfInBounds k (a.tmps.getD k undef)) t:=by
  intro D
  induction D with
  |nil=>
   intro t c h
   apply Array.ext c.symm
   intro i h1 h2
   have:=h i (by simp)
   simpa[h1,h2] using this
  |cons x r ih=>
   intro t c h
   rw[List.foldl_cons]
   refine ih _ (by simp[c]) fun k l=>?_
   by_cases e:x=k
   ·subst e
    by_cases j:x < t.size
    ·simp[j]
    ·simp[xm (show a.tmps.size<=x by omega)]
   ·rw[h k (by simp[l,xr e])]
    simp[e]
 obtain ⟨t,d⟩:=a
 simp only at hd
 subst hd
 exact yz (fun t=>({tmps:=t,defers:=b.defers}:Act)) (f D b.tmps hs.symm g)
end Go.Proofs.Ytghepahgkcigpaa
namespace Go.Proofs.Ytghepahgkcigpaa
open Go
theorem Rj{P:Program}{o:Oper}{a:Act}{w:World}{K:Act->World->Prop}{Q:QT}{l n:Nat}(hd:∀c,o.op≠.defer c)(h:Oper.wp P o a w K Q):Oper.wpIn (Fence.wide.inRound l) n P o a w K Q:=by
 refine ⟨fun _ _=>trivial,?_⟩
 rw[Fence.inRound_round,xu l a.eval o hd]
 unfold Oper.wp at h
 generalize (execOp a.eval o).run P w=r at h ⊢
 cases r with
 |ok x w'=>
  cases x with
  |value v=>exact h
  |skip=>exact h
  |defer d=>exact h
  |enter f args=>exact ⟨fun h=>(by cases h),za.2 h⟩
  |row r args=>exact ⟨fun h=>(by cases h),fun c cs _=>let ⟨v,w2,q,s⟩:=h c cs;⟨v,w2,q,stepsIn_wide.2 s⟩⟩
  |_=>exact h.elim
 |halt x w'=>cases x<;>exact h
def VQ(ops:Array Oper):Bool:=ops.all fun o=>match o.op with
 |.defer _=>false
 |_=>true
section
variable{F:Fence}{n:Nat}{P:Program}{ops:Array Oper}{Q:QT}
theorem Q2{B:Act}{k:Array Bool->Array Value->World->Prop}{x:Nat->Value->World->Prop}{H:Nat->World->World->Prop}(A:H8 ops=true)(G:IU B.tmps.size ops=true)
 (D:∀i j v w w',j≠i->(∀f,Mq ops f j i=false)->H i w w'->x j v w->x j v w')
 (u:∀i b a w,KC ops B k x b a w->i∈Region.ready .any ops b->∀o,ops[i]?=some o->wpOpIn F n P ops Q i (fun J w'=>∃v,J=a.put o.dst v∧k (b.setIfInBounds i true) (a.put o.dst v).tmps w'∧H i w w'∧x i v w') a w)
 (s:∀b a w,(∀i,i < ops.size->b.getD i false=true)->KC ops B k x b a w->Q .normal a w):
  ∀(fuel:Nat) (b:Array Bool) (a:Act) (w:World),(∀i,i < ops.size->b.getD i false=true)∨((List.range ops.size).filter fun i=>!b.getD i false).length<=fuel->KC ops B k x b a w->wpAnyIn F n P .any ops Q fuel b a w:=by
 intro fuel
 induction fuel with
 |zero=>
  intro b a w t hM
  have q:∀i,i < ops.size->b.getD i false=true:=by
   rcases t with t|t
   ·exact t
   ·intro i hi
    have h0:=yX.1 (Nat.le_zero.1 t)
    have:=List.filter_eq_nil_iff.1 h0 i (yW.2 hi)
    simpa using this
  refine ⟨?_,s _ _ _ q hM⟩
  cases C:Region.ready .any ops b with
  |nil=>rfl
  |cons i r=>
   exfalso
   have hi:i∈Region.ready .any ops b:=by rw[C];simp
   obtain ⟨c,o,y,_⟩:=xq.1 hi
   have d:=(yd.1 y).1
   have:=q i d
   have m:i < b.size:=by rw[hM.size];exact d
   simp[m] at c this
   rw[this] at c;cases c
 |succ fuel ih=>
  intro b a w t hM
  refine ⟨fun C=>s _ _ _ (Mr A hM.size C) hM,fun i hi=>?_⟩
  obtain ⟨c,o,y,_⟩:=xq.1 hi
  have d:=(yd.1 y).1
  have m:i < b.size:=by rw[hM.size];exact d
  have g:b.getD i false=false:=by simp[m] at c ⊢;exact c
  refine wpOpIn_mono (fun J w' M=>?_) (u i b a w hM hi o y)
  obtain ⟨v,rfl,N,E,L⟩:=M
  refine ih _ _ _ (.inr ?_) (hM.next A G D hi y N E L)
  have K:=t.resolve_left (fun h=>by rw[h i d] at g;cases g)
  have z:((List.range ops.size).filter fun j=>!(b.setIfInBounds i true).getD j false)=((List.range ops.size).filter fun j=>!b.getD j false).filter fun j=>decide (j≠i):=by
   rw[List.filter_filter]
   refine List.filter_congr fun j _=>?_
   by_cases e:i=j
   ·subst e;simp[m]
   ·rw[xi false e];simp[xr e]
  rw[z]
  have I:=(List.length_filter_lt_length_iff_exists (p:=fun j=>decide (j≠i)) (l:=(List.range ops.size).filter fun j=>!b.getD j false)).2 ⟨i,List.mem_filter.2 ⟨yW.2 d,by rw[g];rfl⟩,by simp⟩
  omega
theorem Lh{id:Nat}{h:Act}{t:World}(u:P.follows .mixedOrders=true)(d:Array Bool->Array Value->World->Prop)(k:Nat->Value->World->Prop)(s:Nat->World->World->Prop)(r:H8 ops=true)(q:IU h.tmps.size ops=true)
 (p:∀i j v w w',j≠i->(∀f,Mq ops f j i=false)->s i w w'->k j v w->k j v w')(h0:d (Array.replicate ops.size false) h.tmps t.drew)
 (g:∀i b a w,KC ops h d k b a w->i∈Region.ready .any ops b->∀o,ops[i]?=some o->wpOpIn F n P ops Q i (fun x w'=>∃v,x=a.put o.dst v∧d (b.setIfInBounds i true) (a.put o.dst v).tmps w'∧s i w w'∧k i v w') a w)
 (l:∀b a w,(∀i,i < ops.size->b.getD i false=true)->KC ops h d k b a w->Q .normal a w):(Code.region id ops true).wpIn F n P Q h t:=by
 refine wpIn_region_any u ?_
 have e:∀i,(Array.replicate ops.size false).getD i false=false:=fun i=>by
  simp[Array.getElem?_replicate];split<;>rfl
 refine Q2 r q p g l ops.size _ h _ (.inr ?_) ⟨by simp,fun m c=>?_,h0,rfl,rfl,fun m c=>?_,fun _ _=>rfl⟩
 ·exact yo (List.length_filter_le _ _) (by simp)
 ·rw[e] at c;cases c
 ·rw[e] at c;cases c
end
section
variable{n:Nat}{P:Program}{ops:Array Oper}{Q:QT}
theorem Hw{id l:Nat}{m:Act}{x:World}(y:P.follows .mixedOrders=true)(d:Array Bool->Array Value->World->Prop)(k:Nat->Value->World->Prop)(t:Nat->World->World->Prop)(u:H8 ops=true)(s:IU m.tmps.size ops=true)
 (e:OA ops=true)(h:VQ ops=true)(r:∀i j v w w',j≠i->(∀f,Mq ops f j i=false)->t i w w'->k j v w->k j v w')(h0:d (Array.replicate ops.size false) m.tmps x.drew)
 (g:∀i b a w,KC ops m d k b a w->i∈Region.ready .any ops b->∀o,ops[i]?=some o->o.wp P a w (Uq (d (b.setIfInBounds i true)) (t i) (k i) o.dst a w) Q)
 (p:∀b a w,(∀i,i < ops.size->b.getD i false=true)->KC ops m d k b a w->Q .normal a w):(Code.region id ops true).wpIn (Fence.wide.inRound l) n P Q m x:=by
 refine Lh y d k t u s r h0 (fun i b a w hM hi o q=>?_) p
 unfold wpOpIn
 rw[q]
 have A:o.guard=none:=by
  unfold OA at e
  rw[zt] at e
  simpa using e o (xt q)
 have z:Region.wanted o (yielded ops a.tmps)=true:=by simp[Region.wanted,A]
 simp only[z,zO]
 refine Rj (fun c hc=>?_) (g i b a w hM hi o q)
 unfold VQ at h
 rw[zt] at h
 have h2:=h o (xt q)
 rw[hc] at h2
 cases h2
end
end Go.Proofs.Ytghepahgkcigpaa
namespace Go.Proofs.Ytghepahgkcigpaa
open Go.RowKit Go.ChangeShapes Go.WideShapes Go.Deep
theorem Sw{α:Type}{P:Nat->α->Prop}:∀n:Nat,(∀i,i < n->∃t,P i t)->∃a:List α,a.length=n∧∀i (h:i < a.length),P i a[i]
 |0,_=>⟨[],rfl,fun i h=>by simp at h⟩
 |n+1,h=>by
  obtain ⟨a,hl,c⟩:=Sw n (fun i hi=>h i (by omega))
  obtain ⟨t,d⟩:=h n (by omega)
  refine ⟨a++[t],by simp[hl],fun i hi=>?_⟩
  by_cases b:i < a.length
  ·rw[qh b];exact c i b
  ·have e:i=a.length:=by simp at hi;omega
   subst e
   simp only[qg (ye _),Nat.sub_self,List.getElem_cons_zero]
   rw[hl];exact d
theorem EZ{H:Type}{P:Program}{e:TypeId}{d:DataW H}{n:Nat}:∀ {l:List (DataW H)},d∈l->n∈d.weights P e->n∈DataW.weightsAll P e l
 |[],h,_=>by simp at h
 |x::r,h,hn=>by
  simp only[DataW.weightsAll,yn]
  rcases yO.1 h with rfl|h
  ·exact .inl hn
  ·exact .inr (EZ h hn)
theorem OX{w:World}{a:Addr}{v:Value}(h:w.cell? a=some v):a.block < w.heap.size:=by
 rcases zV a.block w.heap.size with b|b
 ·exact b
 ·simp[World.cell?,xm b] at h
theorem Ah{α:Type}(l:List α)(o n:Nat):l.drop o=(l.drop o).take n++l.drop (o+n):=by
 rw[<-List.drop_drop];exact (xJ _ _).symm
theorem Dm:Try.prog.cellsOf 9=1:=by kernel_rfl
theorem KH:Try.prog.cellsOf 3=1:=by kernel_rfl
theorem RN:Try.prog.cellsOf 4=1:=by kernel_rfl
theorem Ch:Try.prog.cellsOf 23=2:=by kernel_rfl
theorem F0:Try.prog.cellsOf 49=12:=by kernel_rfl
theorem B8:Try.prog.cellsOf 26=6:=by kernel_rfl
theorem Kn:Try.prog.cellsOf 35=26:=by kernel_rfl
theorem N9:Try.prog.cellsOf 55=7:=by kernel_rfl
theorem MG:Try.prog.cellsOf 57=7:=by kernel_rfl
theorem Lj:Try.prog.cellsOf 51=51:=by kernel_rfl
theorem MH:Try.prog.cellsOf 59=12:=by kernel_rfl
theorem MI:Try.prog.cellsOf 66=8:=by kernel_rfl
theorem MJ:Try.prog.cellsOf 64=23:=by kernel_rfl
theorem Lk:Try.prog.cellsOf 68=37:=by kernel_rfl
theorem MK:Try.prog.cellsOf 70=11:=by kernel_rfl
theorem Jz:Try.prog.cellsOf 27=1:=by kernel_rfl
theorem J6:Try.prog.cellsOf 28=1:=by kernel_rfl
theorem IF:Try.prog.cellsOf 29=1:=by kernel_rfl
theorem J7:Try.prog.cellsOf 30=1:=by kernel_rfl
theorem J8:Try.prog.cellsOf 62=1:=by kernel_rfl
theorem J9:Try.prog.cellsOf 31=1:=by kernel_rfl
theorem IG:Try.prog.cellsOf 32=1:=by kernel_rfl
theorem Ja:Try.prog.cellsOf 33=1:=by kernel_rfl
theorem RO:0 < Try.prog.bytesOf 26:=yt (by kernel_rfl)
theorem Ts:0 < Try.prog.bytesOf 55:=yt (by kernel_rfl)
theorem RP:0 < Try.prog.bytesOf 57:=yt (by kernel_rfl)
theorem Qs:0 < Try.prog.bytesOf 51:=yt (by kernel_rfl)
theorem RQ:0 < Try.prog.bytesOf 59:=yt (by kernel_rfl)
theorem RR:0 < Try.prog.bytesOf 66:=yt (by kernel_rfl)
theorem Tt:0 < Try.prog.bytesOf 64:=yt (by kernel_rfl)
theorem Qt:0 < Try.prog.bytesOf 68:=yt (by kernel_rfl)
theorem RS:0 < Try.prog.bytesOf 70:=yt (by kernel_rfl)
section
variable{H:Type}{enc:TypeId × Value->H}{W:World}
def Wt(t:TypeId)(d:DataW H):Prop:=∀k∈d.weights Try.prog t,k<=reachBytes
def Ll(W:World)(b:Nat):Prop:=b < W.heap.size
theorem F1{α:Type}{t e:TypeId}{sz:Nat}{Pr:LV->α->Prop}(D:Try.prog.underlying t=some (.slice e))(y:Try.prog.cellsOf e=sz)(C:0 < Try.prog.bytesOf e)(z:0 < sz){fuel:Nat}{x0:Value}{d:DataW H}{ps:List MemPlace}
 (P:∀n,n < fuel->∀cs d ps,DataW.trod enc Try.prog W 0 (fun _=>true) true n e cs=some (d,ps)->Wt e d->cs.length=sz->∃x,Pr cs x)
 (h:DataW.trod enc Try.prog W 0 (fun _=>true) true fuel t [x0]=some (d,ps))(J:Wt t d):∃(hd:AF) (l:List α),x0=hd.v∧B7 (Ll W) W sz Pr hd l∧hd.n<=hd.c:=by
 rcases DataW.trod_slice D h with ⟨m,_⟩|⟨a,len,cap,f,rest,n,R,m,E,hb,hl,S,K,B,_,_⟩
 ·obtain rfl:x0=.slice none 0 0:=(xy m).1
  exact ⟨⟨none,0,0⟩,[],rfl,⟨rfl,by simp,fun i h=>by simp at h⟩,ye _⟩
 ·obtain rfl:x0=.slice (some a) len cap:=(xy m).1
  simp only[zo] at E
  have I:len<=140737488355328:=by
   have h1:=J ((f.length+rest.length)*Try.prog.bytesOf e) (by
    rw[E.1,DataW.weights,D]
    simp)
   have h2:reachBytes < 2 ^ 47:=reachBytes_lt
   have h3:f.length+rest.length<=(f.length+rest.length)*Try.prog.bytesOf e:=Nat.le_mul_of_pos_right _ C
   omega
  have r:∀i,i < len->∃q:LV × α,q.1.length=sz∧(∀j,j < sz->W.cell? ((a.add (i*sz)).add j)=q.1[j]?)∧Pr q.1 q.2:=by
   intro i hi
   have h1:=B i hi
   have h2:f[i]?=some (f[i]'(by omega)):=yl _
   rw[h2,y] at h1
   obtain ⟨cs,hc,w⟩:=Option.bind_eq_some_iff.1 h1
   obtain ⟨_,p,G⟩:=World.cells?_some hc
   obtain ⟨x,F⟩:=P n (by omega) cs _ _ w (fun k O=>J k (by
    rw[E.1,DataW.weights,D]
    exact xj _ (yn.2 (.inl (EZ (xH.2 ⟨_,yw (by omega),rfl⟩) O))))) p
   exact ⟨(cs,x),p,G,F⟩
  by_cases h0:len=0
  ·subst h0
   exact ⟨⟨some a,0,cap⟩,[],rfl,⟨rfl,by simp,fun i h=>by simp at h⟩,hl⟩
  ·obtain ⟨A,L,F⟩:=Sw len r
   obtain ⟨q0,T,c0,_⟩:=r 0 (by omega)
   have s:W.cell? a=some (q0.1[0]'(by omega)):=by
    have:=c0 0 z
    rw[yl (by omega)] at this
    simpa[Addr.add] using this
   have g:a.spot=none:=World.cell?_spot s
   have o:a.block < W.heap.size:=OX s
   obtain ⟨b,off,M⟩:=a
   simp only at g o
   subst g
   refine ⟨⟨some (aV b off),len,cap⟩,A.map (·.2),rfl,⟨by simp[L],by simp[L];omega,fun i hi=>?_⟩,hl⟩
   have u:i < A.length:=by simpa using hi
   obtain ⟨p1,p2,p3⟩:=F i u
   refine ⟨b,off,(A[i]).1,rfl,o,p1,fun j v N=>?_,by simpa using p3⟩
   have Q:=(yA.1 N).1
   have:=p2 j (by omega)
   rw[N] at this
   simpa[zx,zU] using this
theorem Sx{a:Option Addr}:∀ {l:List Ex} {k:Nat},(∀i (h:i < l.length),∃b o cs,a=some ⟨b,o,none⟩∧Ll W b∧W.rangeAt b (o+(k+i)*6) cs∧Bh (Ll W) W l[i] cs)->E6 (Ll W) W a k l
 |[],_,_=>by rw[E6];trivial
 |e::r,k,h=>by
  rw[E6]
  refine ⟨h 0 (by simp),Sx fun i hi=>?_⟩
  obtain ⟨b,o,cs,h1,h2,h3,h4⟩:=h (i+1) (by simpa using hi)
  exact ⟨b,o,cs,h1,h2,by rw[show k+1+i=k+(i+1) by omega];exact h3,by simpa using h4⟩
theorem F2{fuel:Nat}{cs:LV}{d:DataW H}{ps:List MemPlace}(h:DataW.trod enc Try.prog W 0 (fun _=>true) true fuel 9 cs=some (d,ps)):∃s:ByteArray,cs=[.string s]∧s.size<=maxLen:=by
 obtain ⟨s,h1,_,h2⟩:=DataW.trod_string j1 h
 exact ⟨s,h1,h2⟩
theorem GG{fuel:Nat}{cs:LV}{d:DataW H}{ps:List MemPlace}(h:DataW.trod enc Try.prog W 0 (fun _=>true) true fuel 3 cs=some (d,ps)):∃z,cs=[.int .i64 z]:=by
 obtain ⟨z,h1,_⟩:=DataW.trod_int qJ h
 exact ⟨z,h1⟩
theorem Tu{fuel:Nat}{cs:LV}{d:DataW H}{ps:List MemPlace}(h:DataW.trod enc Try.prog W 0 (fun _=>true) true fuel 4 cs=some (d,ps)):∃z,cs=[.bool z]:=by
 obtain ⟨z,h1,_⟩:=DataW.trod_bool qP h
 exact ⟨z,h1⟩
theorem Ey{fuel:Nat}{cs:LV}{d:DataW H}{ps:List MemPlace}(h:DataW.trod enc Try.prog W 0 (fun _=>true) true fuel 23 cs=some (d,ps)):∃r:Rf,cs=Ad r∧r.name.size<=maxLen:=by
 obtain ⟨f,n,_,g,b,c,a⟩:=zF qD h
 rw[Ch] at b
 match cs,b,f,c with
 |[x0,x1],_,[y0,y1],_=>
  have e:=a 0 _ rfl
  have t1:=a 1 _ rfl
  simp only[xX,List.getElem?_cons_succ] at e t1
  obtain ⟨s,e0,hs⟩:=F2 e
  obtain ⟨z,e1⟩:=GG t1
  obtain rfl:x0=.string s:=(xy (show [x0]=[_] from e0)).1
  obtain rfl:x1=iV z:=(xy (show [x1]=[_] from e1)).1
  exact ⟨⟨s,z⟩,rfl,hs⟩
theorem BC:∀(fuel:Nat) (cs:LV) (d:DataW H) (ps:List MemPlace),DataW.trod enc Try.prog W 0 (fun _=>true) true fuel 26 cs=some (d,ps)->Wt 26 d->∃e:Ex,Bh (Ll W) W e cs:=by
 intro fuel
 induction fuel using Nat.strongRecOn with
 |ind fuel ih=>
  intro cs d ps h q
  obtain ⟨C,n,J,w,p,s,f⟩:=zF qF h
  rw[B8] at p
  simp only[zo] at w
  match cs,p,C,s with
  |[x0,x1,x2,x3,x4,x5],_,[y0,y1,y2,y3,y4],_=>
   have x:=f 0 _ rfl
   have t1:=f 1 _ rfl
   have t2:=f 2 _ rfl
   have t3:=f 3 _ rfl
   have t4:=f 4 _ rfl
   simp only[xX,List.getElem?_cons_succ] at x t1 t2 t3 t4
   obtain ⟨A,e0⟩:=GG x
   obtain ⟨z,e1⟩:=GG t1
   obtain ⟨y,e2⟩:=GG t2
   obtain ⟨r,u,F⟩:=Ey t3
   obtain rfl:x0=iV A:=(xy (show [x0]=[_] from e0)).1
   obtain rfl:x1=iV z:=(xy (show [x1]=[_] from e1)).1
   obtain rfl:x2=iV y:=(xy (show [x2]=[_] from e2)).1
   have u:[x3,x4]=[Value.string r.name,iV r.n]:=u
   obtain ⟨rfl,K⟩:=xy u
   obtain ⟨rfl,_⟩:=xy K
   obtain ⟨hd,l,D,g,_⟩:=F1 (x0:=x5) (Pr:=fun cs e=>Bh (Ll W) W e cs) qE B8 RO (by decide) (fun m L cs d ps h q _=>ih m (by omega) cs d ps h q) (show DataW.trod enc Try.prog W 0 (fun _=>true) true n 24 [x5]=some (y4.1,y4.2) from t4) (fun k E=>q k (by
    rw[w.1,DataW.weights,qF]
    exact yB (j:=4) (t:=24) (d:=y4.1) rfl rfl _ E))
   subst D
   refine ⟨.mk A z y r.name r.n l,?_⟩
   rw[Bh]
   refine ⟨hd.a,hd.c,by unfold AF.v;rw[g.1],g.2.1,F,Sx fun i hi=>?_⟩
   obtain ⟨b,o,cs,g1,I,_,B,G⟩:=g.2.2 i hi
   exact ⟨b,o,cs,g1,I,by rw[yD];exact B,G⟩
theorem Qu{fuel:Nat}{cs:LV}{d:DataW H}{ps:List MemPlace}(h:DataW.trod enc Try.prog W 0 (fun _=>true) true fuel 49 cs=some (d,ps))(q:Wt 49 d):∃(e f:Ex) (c r:LV),cs=c++r∧Bh (Ll W) W e c∧Bh (Ll W) W f r:=by
 obtain ⟨t,n,u,j,b,m,a⟩:=DataW.trod_array qQ h
 simp only[zo] at j
 rw[F0] at b
 match t,m with
 |[y0,y1],_=>
  have p:DataW.trod enc Try.prog W 0 (fun _=>true) true n 26 ((cs.drop (0*Try.prog.cellsOf 26)).take (Try.prog.cellsOf 26))=some (y0.1,y0.2):=a 0 (by decide)
  have t1:DataW.trod enc Try.prog W 0 (fun _=>true) true n 26 ((cs.drop (1*Try.prog.cellsOf 26)).take (Try.prog.cellsOf 26))=some (y1.1,y1.2):=a 1 (by decide)
  rw[B8] at p t1
  obtain ⟨e,v⟩:=BC n _ _ _ p (fun k l=>q k (by
   rw[j.1,DataW.weights,qQ]
   exact EZ (d:=y0.1) (by simp) l))
  obtain ⟨f,s⟩:=BC n _ _ _ t1 (fun k l=>q k (by
   rw[j.1,DataW.weights,qQ]
   exact EZ (d:=y1.1) (by simp) l))
  refine ⟨e,f,_,_,?_,v,s⟩
  have i:=Ah cs 0 6
  have o:=Ah cs 6 6
  have g:cs.drop 12=[]:=by rw[<-b];exact zl
  simp only[Nat.reduceAdd,qj,Nat.one_mul] at i o ⊢
  rw[g,yG] at o
  rw[zY] at i
  rw[<-o]
  rw[zY]
  exact i
theorem UW(fuel:Nat)(cs:LV)(d:DataW H)(ps:List MemPlace)(h:DataW.trod enc Try.prog W 0 (fun _=>true) true fuel 55 cs=some (d,ps))(v:Wt 55 d)(f:cs.length=7):∃x:E8,Hf (Ll W) W cs x:=by
 obtain ⟨p,n,y,r,_,b,a⟩:=zF qT h
 simp only[zo] at r
 have b:p.length=2:=b
 match p,b with
 |[y0,y1],_=>
  have i:DataW.trod enc Try.prog W 0 (fun _=>true) true n 9 ((cs.drop 0).take (Try.prog.cellsOf 9))=some (y0.1,y0.2):=a 0 _ rfl
  rw[Dm] at i
  have t1:DataW.trod enc Try.prog W 0 (fun _=>true) true n 26 ((cs.drop 1).take (Try.prog.cellsOf 26))=some (y1.1,y1.2):=a 1 _ rfl
  rw[B8] at t1
  have m:cs=cs.drop 0:=rfl
  have c:=Ah cs 0 1
  obtain ⟨q0,l⟩:∃q,q=(cs.drop 0).take 1:=⟨_,rfl⟩
  rw[<-l] at i c
  have o:=Ah cs 1 6
  obtain ⟨s,g⟩:∃q,q=(cs.drop 1).take 6:=⟨_,rfl⟩
  rw[<-g] at t1 o
  have e:cs.drop 7=[]:=by rw[<-f];exact zl
  simp only[Nat.reduceAdd] at c o
  rw[zY] at c
  rw[o] at c
  rw[e] at c
  clear m
  obtain ⟨v0,e0,w⟩:=F2 i
  obtain ⟨z,e1⟩:=BC n s _ _ t1 (fun k u=>v k (by
   rw[r.1,DataW.weights,qT]
   exact yB (j:=1) (t:=26) (d:=y1.1) rfl rfl _ u))
  exact ⟨⟨v0,z⟩,w,s,by rw[c,e0];simp,e1⟩
theorem Tv(fuel:Nat)(cs:LV)(d:DataW H)(ps:List MemPlace)(h:DataW.trod enc Try.prog W 0 (fun _=>true) true fuel 57 cs=some (d,ps))(v:Wt 57 d)(f:cs.length=7):∃x:Cp,F6 (Ll W) W cs x:=by
 obtain ⟨p,n,y,r,_,b,a⟩:=zF qU h
 simp only[zo] at r
 have b:p.length=2:=b
 match p,b with
 |[y0,y1],_=>
  have i:DataW.trod enc Try.prog W 0 (fun _=>true) true n 9 ((cs.drop 0).take (Try.prog.cellsOf 9))=some (y0.1,y0.2):=a 0 _ rfl
  rw[Dm] at i
  have t1:DataW.trod enc Try.prog W 0 (fun _=>true) true n 26 ((cs.drop 1).take (Try.prog.cellsOf 26))=some (y1.1,y1.2):=a 1 _ rfl
  rw[B8] at t1
  have m:cs=cs.drop 0:=rfl
  have c:=Ah cs 0 1
  obtain ⟨q0,l⟩:∃q,q=(cs.drop 0).take 1:=⟨_,rfl⟩
  rw[<-l] at i c
  have o:=Ah cs 1 6
  obtain ⟨s,g⟩:∃q,q=(cs.drop 1).take 6:=⟨_,rfl⟩
  rw[<-g] at t1 o
  have e:cs.drop 7=[]:=by rw[<-f];exact zl
  simp only[Nat.reduceAdd] at c o
  rw[zY] at c
  rw[o] at c
  rw[e] at c
  clear m
  obtain ⟨v0,e0,w⟩:=F2 i
  obtain ⟨z,e1⟩:=BC n s _ _ t1 (fun k u=>v k (by
   rw[r.1,DataW.weights,qU]
   exact yB (j:=1) (t:=26) (d:=y1.1) rfl rfl _ u))
  exact ⟨⟨v0,z⟩,w,s,by rw[c,e0];simp,e1⟩
theorem RT(fuel:Nat)(cs:LV)(d:DataW H)(ps:List MemPlace)(h:DataW.trod enc Try.prog W 0 (fun _=>true) true fuel 51 cs=some (d,ps))(g:Wt 51 d)(l:cs.length=51):∃x:AI,CY (Ll W) W cs x:=by
 obtain ⟨K,n,Q,e,_,f,a⟩:=zF qS h
 simp only[zo] at e
 have f:K.length=8:=f
 match K,f with
 |[y0,y1,y2,y3,y4,y5,y6,y7],_=>
  have v:DataW.trod enc Try.prog W 0 (fun _=>true) true n 9 ((cs.drop 0).take (Try.prog.cellsOf 9))=some (y0.1,y0.2):=a 0 _ rfl
  rw[Dm] at v
  have t1:DataW.trod enc Try.prog W 0 (fun _=>true) true n 23 ((cs.drop 1).take (Try.prog.cellsOf 23))=some (y1.1,y1.2):=a 1 _ rfl
  rw[Ch] at t1
  have t2:DataW.trod enc Try.prog W 0 (fun _=>true) true n 26 ((cs.drop 3).take (Try.prog.cellsOf 26))=some (y2.1,y2.2):=a 2 _ rfl
  rw[B8] at t2
  have t3:DataW.trod enc Try.prog W 0 (fun _=>true) true n 26 ((cs.drop 9).take (Try.prog.cellsOf 26))=some (y3.1,y3.2):=a 3 _ rfl
  rw[B8] at t3
  have t4:DataW.trod enc Try.prog W 0 (fun _=>true) true n 26 ((cs.drop 15).take (Try.prog.cellsOf 26))=some (y4.1,y4.2):=a 4 _ rfl
  rw[B8] at t4
  have t5:DataW.trod enc Try.prog W 0 (fun _=>true) true n 26 ((cs.drop 21).take (Try.prog.cellsOf 26))=some (y5.1,y5.2):=a 5 _ rfl
  rw[B8] at t5
  have t6:DataW.trod enc Try.prog W 0 (fun _=>true) true n 49 ((cs.drop 27).take (Try.prog.cellsOf 49))=some (y6.1,y6.2):=a 6 _ rfl
  rw[F0] at t6
  have t7:DataW.trod enc Try.prog W 0 (fun _=>true) true n 49 ((cs.drop 39).take (Try.prog.cellsOf 49))=some (y7.1,y7.2):=a 7 _ rfl
  rw[F0] at t7
  have E:cs=cs.drop 0:=rfl
  have b:=Ah cs 0 1
  obtain ⟨q0,s⟩:∃q,q=(cs.drop 0).take 1:=⟨_,rfl⟩
  rw[<-s] at v b
  have A:=Ah cs 1 2
  obtain ⟨q1,m⟩:∃q,q=(cs.drop 1).take 2:=⟨_,rfl⟩
  rw[<-m] at t1 A
  have o:=Ah cs 3 6
  obtain ⟨J,z⟩:∃q,q=(cs.drop 3).take 6:=⟨_,rfl⟩
  rw[<-z] at t2 o
  have u:=Ah cs 9 6
  obtain ⟨M,w⟩:∃q,q=(cs.drop 9).take 6:=⟨_,rfl⟩
  rw[<-w] at t3 u
  have r:=Ah cs 15 6
  obtain ⟨I,D⟩:∃q,q=(cs.drop 15).take 6:=⟨_,rfl⟩
  rw[<-D] at t4 r
  have F:=Ah cs 21 6
  obtain ⟨L,p⟩:∃q,q=(cs.drop 21).take 6:=⟨_,rfl⟩
  rw[<-p] at t5 F
  have y:=Ah cs 27 12
  obtain ⟨q6,B⟩:∃q,q=(cs.drop 27).take 12:=⟨_,rfl⟩
  rw[<-B] at t6 y
  have G:=Ah cs 39 12
  obtain ⟨q7,C⟩:∃q,q=(cs.drop 39).take 12:=⟨_,rfl⟩
  rw[<-C] at t7 G
  have i:cs.drop 51=[]:=by rw[<-l];exact zl
  simp only[Nat.reduceAdd] at b A o u r F y G
  rw[zY] at b
  rw[A] at b
  rw[o] at b
  rw[u] at b
  rw[r] at b
  rw[F] at b
  rw[y] at b
  rw[G] at b
  rw[i] at b
  clear E
  obtain ⟨v0,e0,z0⟩:=F2 v
  obtain ⟨v1,e1,Z⟩:=Ey t1
  obtain ⟨S,e2⟩:=BC n J _ _ t2 (fun k c=>g k (by
   rw[e.1,DataW.weights,qS]
   exact yB (j:=2) (t:=26) (d:=y2.1) rfl rfl _ c))
  obtain ⟨v3,R⟩:=BC n M _ _ t3 (fun k c=>g k (by
   rw[e.1,DataW.weights,qS]
   exact yB (j:=3) (t:=26) (d:=y3.1) rfl rfl _ c))
  obtain ⟨v4,e4⟩:=BC n I _ _ t4 (fun k c=>g k (by
   rw[e.1,DataW.weights,qS]
   exact yB (j:=4) (t:=26) (d:=y4.1) rfl rfl _ c))
  obtain ⟨v5,X⟩:=BC n L _ _ t5 (fun k c=>g k (by
   rw[e.1,DataW.weights,qS]
   exact yB (j:=5) (t:=26) (d:=y5.1) rfl rfl _ c))
  obtain ⟨v6,O,c6,V,Y,T,h6⟩:=Qu t6 (fun k c=>g k (by
   rw[e.1,DataW.weights,qS]
   exact yB (j:=6) (t:=49) (d:=y6.1) rfl rfl _ c))
  obtain ⟨U,u7,c7,P,e7,N,h7⟩:=Qu t7 (fun k c=>g k (by
   rw[e.1,DataW.weights,qS]
   exact yB (j:=7) (t:=49) (d:=y7.1) rfl rfl _ c))
  exact ⟨⟨v0,v1,S,v3,v4,v5,v6,O,U,u7⟩,z0,Z,J,M,I,L,c6,V,c7,P,by rw[b,e0,e1,Y,e7];simp,e2,R,e4,X,T,h6,N,h7⟩
theorem Tw(fuel:Nat)(cs:LV)(d:DataW H)(ps:List MemPlace)(h:DataW.trod enc Try.prog W 0 (fun _=>true) true fuel 59 cs=some (d,ps))(C:Wt 59 d)(f:cs.length=12):∃x:BN,E9 (Ll W) W cs x:=by
 obtain ⟨y,n,G,z,_,c,a⟩:=zF qV h
 simp only[zo] at z
 have c:y.length=5:=c
 match y,c with
 |[y0,y1,y2,y3,y4],_=>
  have m:DataW.trod enc Try.prog W 0 (fun _=>true) true n 9 ((cs.drop 0).take (Try.prog.cellsOf 9))=some (y0.1,y0.2):=a 0 _ rfl
  rw[Dm] at m
  have t1:DataW.trod enc Try.prog W 0 (fun _=>true) true n 23 ((cs.drop 1).take (Try.prog.cellsOf 23))=some (y1.1,y1.2):=a 1 _ rfl
  rw[Ch] at t1
  have t2:DataW.trod enc Try.prog W 0 (fun _=>true) true n 4 ((cs.drop 3).take (Try.prog.cellsOf 4))=some (y2.1,y2.2):=a 2 _ rfl
  rw[RN] at t2
  have t3:DataW.trod enc Try.prog W 0 (fun _=>true) true n 26 ((cs.drop 4).take (Try.prog.cellsOf 26))=some (y3.1,y3.2):=a 3 _ rfl
  rw[B8] at t3
  have t4:DataW.trod enc Try.prog W 0 (fun _=>true) true n 23 ((cs.drop 10).take (Try.prog.cellsOf 23))=some (y4.1,y4.2):=a 4 _ rfl
  rw[Ch] at t4
  have u:cs=cs.drop 0:=rfl
  have b:=Ah cs 0 1
  obtain ⟨q0,p⟩:∃q,q=(cs.drop 0).take 1:=⟨_,rfl⟩
  rw[<-p] at m b
  have w:=Ah cs 1 2
  obtain ⟨N,g⟩:∃q,q=(cs.drop 1).take 2:=⟨_,rfl⟩
  rw[<-g] at t1 w
  have r:=Ah cs 3 1
  obtain ⟨L,v⟩:∃q,q=(cs.drop 3).take 1:=⟨_,rfl⟩
  rw[<-v] at t2 r
  have s:=Ah cs 4 6
  obtain ⟨A,o⟩:∃q,q=(cs.drop 4).take 6:=⟨_,rfl⟩
  rw[<-o] at t3 s
  have l:=Ah cs 10 2
  obtain ⟨M,i⟩:∃q,q=(cs.drop 10).take 2:=⟨_,rfl⟩
  rw[<-i] at t4 l
  have e:cs.drop 12=[]:=by rw[<-f];exact zl
  simp only[Nat.reduceAdd] at b w r s l
  rw[zY] at b
  rw[w] at b
  rw[r] at b
  rw[s] at b
  rw[l] at b
  rw[e] at b
  clear u
  obtain ⟨v0,e0,F⟩:=F2 m
  obtain ⟨I,e1,E⟩:=Ey t1
  obtain ⟨D,e2⟩:=Tu t2
  obtain ⟨v3,K⟩:=BC n A _ _ t3 (fun k B=>C k (by
   rw[z.1,DataW.weights,qV]
   exact yB (j:=3) (t:=26) (d:=y3.1) rfl rfl _ B))
  obtain ⟨v4,J,z4⟩:=Ey t4
  exact ⟨⟨v0,I,D,v3,v4⟩,F,E,z4,A,by rw[b,e0,e1,e2,J];simp,K⟩
theorem Tz(fuel:Nat)(cs:LV)(d:DataW H)(ps:List MemPlace)(h:DataW.trod enc Try.prog W 0 (fun _=>true) true fuel 66 cs=some (d,ps))(v:Wt 66 d)(f:cs.length=8):∃x:BM,Fv (Ll W) W cs x:=by
 obtain ⟨p,n,y,r,_,b,a⟩:=zF qY h
 simp only[zo] at r
 have b:p.length=2:=b
 match p,b with
 |[y0,y1],_=>
  have i:DataW.trod enc Try.prog W 0 (fun _=>true) true n 23 ((cs.drop 0).take (Try.prog.cellsOf 23))=some (y0.1,y0.2):=a 0 _ rfl
  rw[Ch] at i
  have t1:DataW.trod enc Try.prog W 0 (fun _=>true) true n 26 ((cs.drop 2).take (Try.prog.cellsOf 26))=some (y1.1,y1.2):=a 1 _ rfl
  rw[B8] at t1
  have m:cs=cs.drop 0:=rfl
  have c:=Ah cs 0 2
  obtain ⟨q0,l⟩:∃q,q=(cs.drop 0).take 2:=⟨_,rfl⟩
  rw[<-l] at i c
  have o:=Ah cs 2 6
  obtain ⟨s,g⟩:∃q,q=(cs.drop 2).take 6:=⟨_,rfl⟩
  rw[<-g] at t1 o
  have e:cs.drop 8=[]:=by rw[<-f];exact zl
  simp only[Nat.reduceAdd] at c o
  rw[zY] at c
  rw[o] at c
  rw[e] at c
  clear m
  obtain ⟨v0,e0,w⟩:=Ey i
  obtain ⟨z,e1⟩:=BC n s _ _ t1 (fun k u=>v k (by
   rw[r.1,DataW.weights,qY]
   exact yB (j:=1) (t:=26) (d:=y1.1) rfl rfl _ u))
  exact ⟨⟨v0,z⟩,w,s,by rw[c,e0];simp,e1⟩
theorem UX(fuel:Nat)(cs:LV)(d:DataW H)(ps:List MemPlace)(h:DataW.trod enc Try.prog W 0 (fun _=>true) true fuel 64 cs=some (d,ps))(i:Wt 64 d)(c:cs.length=23):∃x:AS × AF,I6 (Ll W) W x.2 cs x.1:=by
 obtain ⟨K,n,Y,l,_,g,a⟩:=zF qX h
 simp only[zo] at l
 have g:K.length=7:=g
 match K,g with
 |[y0,y1,y2,y3,y4,y5,y6],_=>
  have w:DataW.trod enc Try.prog W 0 (fun _=>true) true n 9 ((cs.drop 0).take (Try.prog.cellsOf 9))=some (y0.1,y0.2):=a 0 _ rfl
  rw[Dm] at w
  have t1:DataW.trod enc Try.prog W 0 (fun _=>true) true n 23 ((cs.drop 1).take (Try.prog.cellsOf 23))=some (y1.1,y1.2):=a 1 _ rfl
  rw[Ch] at t1
  have t2:DataW.trod enc Try.prog W 0 (fun _=>true) true n 3 ((cs.drop 3).take (Try.prog.cellsOf 3))=some (y2.1,y2.2):=a 2 _ rfl
  rw[KH] at t2
  have t3:DataW.trod enc Try.prog W 0 (fun _=>true) true n 26 ((cs.drop 4).take (Try.prog.cellsOf 26))=some (y3.1,y3.2):=a 3 _ rfl
  rw[B8] at t3
  have t4:DataW.trod enc Try.prog W 0 (fun _=>true) true n 26 ((cs.drop 10).take (Try.prog.cellsOf 26))=some (y4.1,y4.2):=a 4 _ rfl
  rw[B8] at t4
  have t5:DataW.trod enc Try.prog W 0 (fun _=>true) true n 26 ((cs.drop 16).take (Try.prog.cellsOf 26))=some (y5.1,y5.2):=a 5 _ rfl
  rw[B8] at t5
  have t6:DataW.trod enc Try.prog W 0 (fun _=>true) true n 62 ((cs.drop 22).take (Try.prog.cellsOf 62))=some (y6.1,y6.2):=a 6 _ rfl
  rw[J8] at t6
  have C:cs=cs.drop 0:=rfl
  have b:=Ah cs 0 1
  obtain ⟨q0,z⟩:∃q,q=(cs.drop 0).take 1:=⟨_,rfl⟩
  rw[<-z] at w b
  have J:=Ah cs 1 2
  obtain ⟨q1,r⟩:∃q,q=(cs.drop 1).take 2:=⟨_,rfl⟩
  rw[<-r] at t1 J
  have A:=Ah cs 3 1
  obtain ⟨q2,G⟩:∃q,q=(cs.drop 3).take 1:=⟨_,rfl⟩
  rw[<-G] at t2 A
  have B:=Ah cs 4 6
  obtain ⟨N,y⟩:∃q,q=(cs.drop 4).take 6:=⟨_,rfl⟩
  rw[<-y] at t3 B
  have u:=Ah cs 10 6
  obtain ⟨L,s⟩:∃q,q=(cs.drop 10).take 6:=⟨_,rfl⟩
  rw[<-s] at t4 u
  have E:=Ah cs 16 6
  obtain ⟨M,I⟩:∃q,q=(cs.drop 16).take 6:=⟨_,rfl⟩
  rw[<-I] at t5 E
  have D:=Ah cs 22 1
  obtain ⟨S,p⟩:∃q,q=(cs.drop 22).take 1:=⟨_,rfl⟩
  rw[<-p] at t6 D
  have o:cs.drop 23=[]:=by rw[<-c];exact zl
  simp only[Nat.reduceAdd] at b J A B u E D
  rw[zY] at b
  rw[J] at b
  rw[A] at b
  rw[B] at b
  rw[u] at b
  rw[E] at b
  rw[D] at b
  rw[o] at b
  clear C
  obtain ⟨v0,e0,X⟩:=F2 w
  obtain ⟨Z,e1,T⟩:=Ey t1
  obtain ⟨R,e2⟩:=GG t2
  obtain ⟨v3,e3⟩:=BC n N _ _ t3 (fun k e=>i k (by
   rw[l.1,DataW.weights,qX]
   exact yB (j:=3) (t:=26) (d:=y3.1) rfl rfl _ e))
  obtain ⟨v4,e4⟩:=BC n L _ _ t4 (fun k e=>i k (by
   rw[l.1,DataW.weights,qX]
   exact yB (j:=4) (t:=26) (d:=y4.1) rfl rfl _ e))
  obtain ⟨v5,P⟩:=BC n M _ _ t5 (fun k e=>i k (by
   rw[l.1,DataW.weights,qX]
   exact yB (j:=5) (t:=26) (d:=y5.1) rfl rfl _ e))
  obtain ⟨V,f⟩:∃v,S=[v]:=zL.1 (by rw[p,yP,xp,c];rfl)
  rw[f] at t6
  obtain ⟨F,U,Q,Ed,O⟩:=F1 (Pr:=fun cs x=>Fv (Ll W) W cs x) qW MI RR (by decide) (fun m _ cs d ps h i hl=>Tz m cs d ps h i hl) t6 (fun k e=>i k (by
   rw[l.1,DataW.weights,qX]
   exact yB (j:=6) (t:=62) (d:=y6.1) rfl rfl _ e))
  rw[Q] at f
  exact ⟨(⟨v0,Z,R,v3,v4,v5,U⟩,F),X,T,N,L,M,by rw[b,e0,e1,e2,f];simp,e3,e4,P,Ed⟩
theorem RU(fuel:Nat)(cs:LV)(d:DataW H)(ps:List MemPlace)(h:DataW.trod enc Try.prog W 0 (fun _=>true) true fuel 68 cs=some (d,ps))(g:Wt 68 d)(l:cs.length=37):∃x:AJ,CQ (Ll W) W cs x:=by
 obtain ⟨Q,n,V,f,_,e,a⟩:=zF qZ h
 simp only[zo] at f
 have e:Q.length=10:=e
 match Q,e with
 |[y0,y1,y2,y3,y4,y5,y6,y7,y8,y9],_=>
  have y:DataW.trod enc Try.prog W 0 (fun _=>true) true n 3 ((cs.drop 0).take (Try.prog.cellsOf 3))=some (y0.1,y0.2):=a 0 _ rfl
  rw[KH] at y
  have t1:DataW.trod enc Try.prog W 0 (fun _=>true) true n 9 ((cs.drop 1).take (Try.prog.cellsOf 9))=some (y1.1,y1.2):=a 1 _ rfl
  rw[Dm] at t1
  have t2:DataW.trod enc Try.prog W 0 (fun _=>true) true n 23 ((cs.drop 2).take (Try.prog.cellsOf 23))=some (y2.1,y2.2):=a 2 _ rfl
  rw[Ch] at t2
  have t3:DataW.trod enc Try.prog W 0 (fun _=>true) true n 23 ((cs.drop 4).take (Try.prog.cellsOf 23))=some (y3.1,y3.2):=a 3 _ rfl
  rw[Ch] at t3
  have t4:DataW.trod enc Try.prog W 0 (fun _=>true) true n 3 ((cs.drop 6).take (Try.prog.cellsOf 3))=some (y4.1,y4.2):=a 4 _ rfl
  rw[KH] at t4
  have t5:DataW.trod enc Try.prog W 0 (fun _=>true) true n 26 ((cs.drop 7).take (Try.prog.cellsOf 26))=some (y5.1,y5.2):=a 5 _ rfl
  rw[B8] at t5
  have t6:DataW.trod enc Try.prog W 0 (fun _=>true) true n 26 ((cs.drop 13).take (Try.prog.cellsOf 26))=some (y6.1,y6.2):=a 6 _ rfl
  rw[B8] at t6
  have t7:DataW.trod enc Try.prog W 0 (fun _=>true) true n 26 ((cs.drop 19).take (Try.prog.cellsOf 26))=some (y7.1,y7.2):=a 7 _ rfl
  rw[B8] at t7
  have B:DataW.trod enc Try.prog W 0 (fun _=>true) true n 26 ((cs.drop 25).take (Try.prog.cellsOf 26))=some (y8.1,y8.2):=a 8 _ rfl
  rw[B8] at B
  have t9:DataW.trod enc Try.prog W 0 (fun _=>true) true n 26 ((cs.drop 31).take (Try.prog.cellsOf 26))=some (y9.1,y9.2):=a 9 _ rfl
  rw[B8] at t9
  have J:cs=cs.drop 0:=rfl
  have b:=Ah cs 0 1
  obtain ⟨q0,v⟩:∃q,q=(cs.drop 0).take 1:=⟨_,rfl⟩
  rw[<-v] at y b
  have D:=Ah cs 1 1
  obtain ⟨q1,m⟩:∃q,q=(cs.drop 1).take 1:=⟨_,rfl⟩
  rw[<-m] at t1 D
  have o:=Ah cs 2 2
  obtain ⟨q2,C⟩:∃q,q=(cs.drop 2).take 2:=⟨_,rfl⟩
  rw[<-C] at t2 o
  have w:=Ah cs 4 2
  obtain ⟨q3,z⟩:∃q,q=(cs.drop 4).take 2:=⟨_,rfl⟩
  rw[<-z] at t3 w
  have u:=Ah cs 6 1
  obtain ⟨q4,I⟩:∃q,q=(cs.drop 6).take 1:=⟨_,rfl⟩
  rw[<-I] at t4 u
  have K:=Ah cs 7 6
  obtain ⟨S,r⟩:∃q,q=(cs.drop 7).take 6:=⟨_,rfl⟩
  rw[<-r] at t5 K
  have A:=Ah cs 13 6
  obtain ⟨N,E⟩:∃q,q=(cs.drop 13).take 6:=⟨_,rfl⟩
  rw[<-E] at t6 A
  have L:=Ah cs 19 6
  obtain ⟨R,F⟩:∃q,q=(cs.drop 19).take 6:=⟨_,rfl⟩
  rw[<-F] at t7 L
  have p:=Ah cs 25 6
  obtain ⟨P,G⟩:∃q,q=(cs.drop 25).take 6:=⟨_,rfl⟩
  rw[<-G] at B p
  have s:=Ah cs 31 6
  obtain ⟨O,M⟩:∃q,q=(cs.drop 31).take 6:=⟨_,rfl⟩
  rw[<-M] at t9 s
  have i:cs.drop 37=[]:=by rw[<-l];exact zl
  simp only[Nat.reduceAdd] at b D o w u K A L p s
  rw[zY] at b
  rw[D] at b
  rw[o] at b
  rw[w] at b
  rw[u] at b
  rw[K] at b
  rw[A] at b
  rw[L] at b
  rw[p] at b
  rw[s] at b
  rw[i] at b
  clear J
  obtain ⟨v0,e0⟩:=GG y
  obtain ⟨v1,e1,z1⟩:=F2 t1
  obtain ⟨Y,e2,T⟩:=Ey t2
  obtain ⟨v3,X,z3⟩:=Ey t3
  obtain ⟨v4,e4⟩:=GG t4
  obtain ⟨v5,e5⟩:=BC n S _ _ t5 (fun k c=>g k (by
   rw[f.1,DataW.weights,qZ]
   exact yB (j:=5) (t:=26) (d:=y5.1) rfl rfl _ c))
  obtain ⟨v6,e6⟩:=BC n N _ _ t6 (fun k c=>g k (by
   rw[f.1,DataW.weights,qZ]
   exact yB (j:=6) (t:=26) (d:=y6.1) rfl rfl _ c))
  obtain ⟨v7,e7⟩:=BC n R _ _ t7 (fun k c=>g k (by
   rw[f.1,DataW.weights,qZ]
   exact yB (j:=7) (t:=26) (d:=y7.1) rfl rfl _ c))
  obtain ⟨Z,e8⟩:=BC n P _ _ B (fun k c=>g k (by
   rw[f.1,DataW.weights,qZ]
   exact yB (j:=8) (t:=26) (d:=y8.1) rfl rfl _ c))
  obtain ⟨v9,U⟩:=BC n O _ _ t9 (fun k c=>g k (by
   rw[f.1,DataW.weights,qZ]
   exact yB (j:=9) (t:=26) (d:=y9.1) rfl rfl _ c))
  exact ⟨⟨v0,v1,Y,v3,v4,v5,v6,v7,Z,v9⟩,z1,T,z3,S,N,R,P,O,by rw[b,e0,e1,e2,X,e4];simp,e5,e6,e7,e8,U⟩
theorem TA(fuel:Nat)(cs:LV)(d:DataW H)(ps:List MemPlace)(h:DataW.trod enc Try.prog W 0 (fun _=>true) true fuel 70 cs=some (d,ps))(A:Wt 70 d)(f:cs.length=11):∃x:BV,Er (Ll W) W cs x:=by
 obtain ⟨v,n,F,w,_,c,a⟩:=zF j0 h
 simp only[zo] at w
 have c:v.length=4:=c
 match v,c with
 |[y0,y1,y2,y3],_=>
  have i:DataW.trod enc Try.prog W 0 (fun _=>true) true n 9 ((cs.drop 0).take (Try.prog.cellsOf 9))=some (y0.1,y0.2):=a 0 _ rfl
  rw[Dm] at i
  have t1:DataW.trod enc Try.prog W 0 (fun _=>true) true n 23 ((cs.drop 1).take (Try.prog.cellsOf 23))=some (y1.1,y1.2):=a 1 _ rfl
  rw[Ch] at t1
  have t2:DataW.trod enc Try.prog W 0 (fun _=>true) true n 23 ((cs.drop 3).take (Try.prog.cellsOf 23))=some (y2.1,y2.2):=a 2 _ rfl
  rw[Ch] at t2
  have t3:DataW.trod enc Try.prog W 0 (fun _=>true) true n 26 ((cs.drop 5).take (Try.prog.cellsOf 26))=some (y3.1,y3.2):=a 3 _ rfl
  rw[B8] at t3
  have r:cs=cs.drop 0:=rfl
  have b:=Ah cs 0 1
  obtain ⟨q0,m⟩:∃q,q=(cs.drop 0).take 1:=⟨_,rfl⟩
  rw[<-m] at i b
  have u:=Ah cs 1 2
  obtain ⟨K,g⟩:∃q,q=(cs.drop 1).take 2:=⟨_,rfl⟩
  rw[<-g] at t1 u
  have o:=Ah cs 3 2
  obtain ⟨J,s⟩:∃q,q=(cs.drop 3).take 2:=⟨_,rfl⟩
  rw[<-s] at t2 o
  have p:=Ah cs 5 6
  obtain ⟨y,l⟩:∃q,q=(cs.drop 5).take 6:=⟨_,rfl⟩
  rw[<-l] at t3 p
  have e:cs.drop 11=[]:=by rw[<-f];exact zl
  simp only[Nat.reduceAdd] at b u o p
  rw[zY] at b
  rw[u] at b
  rw[o] at b
  rw[p] at b
  rw[e] at b
  clear r
  obtain ⟨v0,e0,E⟩:=F2 i
  obtain ⟨G,e1,D⟩:=Ey t1
  obtain ⟨C,e2,B⟩:=Ey t2
  obtain ⟨v3,I⟩:=BC n y _ _ t3 (fun k z=>A k (by
   rw[w.1,DataW.weights,j0]
   exact yB (j:=3) (t:=26) (d:=y3.1) rfl rfl _ z))
  exact ⟨⟨v0,G,C,v3⟩,E,D,B,y,by rw[b,e0,e1,e2];simp,I⟩
theorem L7{fuel:Nat}{cs:LV}{d:DataW H}{ps:List MemPlace}(h:DataW.trod enc Try.prog W 0 (fun _=>true) true fuel 35 cs=some (d,ps))(g:Wt 35 d)(f:cs.length=26):∃(L:BL) (x:AA),Ba (Ll W) W L cs x∧L.duties.n<=L.duties.c∧L.rights.n<=L.rights.c:=by
 obtain ⟨ys,n,an,s,_,E,a⟩:=zF qO h
 simp only[zo] at s
 have E:ys.length=11:=E
 match ys,E with
 |[y0,y1,y2,y3,y4,y5,y6,y7,y8,y9,y10],_=>
  have t0:DataW.trod enc Try.prog W 0 (fun _=>true) true n 9 ((cs.drop 0).take (Try.prog.cellsOf 9))=some (y0.1,y0.2):=a 0 _ rfl
  rw[Dm] at t0
  have t1:DataW.trod enc Try.prog W 0 (fun _=>true) true n 26 ((cs.drop 1).take (Try.prog.cellsOf 26))=some (y1.1,y1.2):=a 1 _ rfl
  rw[B8] at t1
  have t2:DataW.trod enc Try.prog W 0 (fun _=>true) true n 26 ((cs.drop 7).take (Try.prog.cellsOf 26))=some (y2.1,y2.2):=a 2 _ rfl
  rw[B8] at t2
  have t3:DataW.trod enc Try.prog W 0 (fun _=>true) true n 26 ((cs.drop 13).take (Try.prog.cellsOf 26))=some (y3.1,y3.2):=a 3 _ rfl
  rw[B8] at t3
  have t4:DataW.trod enc Try.prog W 0 (fun _=>true) true n 27 ((cs.drop 19).take (Try.prog.cellsOf 27))=some (y4.1,y4.2):=a 4 _ rfl
  rw[Jz] at t4
  have t5:DataW.trod enc Try.prog W 0 (fun _=>true) true n 28 ((cs.drop 20).take (Try.prog.cellsOf 28))=some (y5.1,y5.2):=a 5 _ rfl
  rw[J6] at t5
  have t6:DataW.trod enc Try.prog W 0 (fun _=>true) true n 29 ((cs.drop 21).take (Try.prog.cellsOf 29))=some (y6.1,y6.2):=a 6 _ rfl
  rw[IF] at t6
  have t7:DataW.trod enc Try.prog W 0 (fun _=>true) true n 30 ((cs.drop 22).take (Try.prog.cellsOf 30))=some (y7.1,y7.2):=a 7 _ rfl
  rw[J7] at t7
  have t8:DataW.trod enc Try.prog W 0 (fun _=>true) true n 31 ((cs.drop 23).take (Try.prog.cellsOf 31))=some (y8.1,y8.2):=a 8 _ rfl
  rw[J9] at t8
  have t9:DataW.trod enc Try.prog W 0 (fun _=>true) true n 32 ((cs.drop 24).take (Try.prog.cellsOf 32))=some (y9.1,y9.2):=a 9 _ rfl
  rw[IG] at t9
  have w:DataW.trod enc Try.prog W 0 (fun _=>true) true n 33 ((cs.drop 25).take (Try.prog.cellsOf 33))=some (y10.1,y10.2):=a 10 _ rfl
  rw[Ja] at w
  have p:=Ah cs 0 1
  obtain ⟨q0,ae⟩:∃q,q=(cs.drop 0).take 1:=⟨_,rfl⟩
  rw[<-ae] at t0 p
  have s1:=Ah cs 1 6
  obtain ⟨q1,aa⟩:∃q,q=(cs.drop 1).take 6:=⟨_,rfl⟩
  rw[<-aa] at t1 s1
  have s2:=Ah cs 7 6
  obtain ⟨q2,ag⟩:∃q,q=(cs.drop 7).take 6:=⟨_,rfl⟩
  rw[<-ag] at t2 s2
  have s3:=Ah cs 13 6
  obtain ⟨q3,af⟩:∃q,q=(cs.drop 13).take 6:=⟨_,rfl⟩
  rw[<-af] at t3 s3
  have s4:=Ah cs 19 1
  obtain ⟨q4,a2⟩:∃q,q=(cs.drop 19).take 1:=⟨_,rfl⟩
  rw[<-a2] at t4 s4
  have s5:=Ah cs 20 1
  obtain ⟨q5,P⟩:∃q,q=(cs.drop 20).take 1:=⟨_,rfl⟩
  rw[<-P] at t5 s5
  have s6:=Ah cs 21 1
  obtain ⟨q6,Z⟩:∃q,q=(cs.drop 21).take 1:=⟨_,rfl⟩
  rw[<-Z] at t6 s6
  have s7:=Ah cs 22 1
  obtain ⟨q7,a0⟩:∃q,q=(cs.drop 22).take 1:=⟨_,rfl⟩
  rw[<-a0] at t7 s7
  have s8:=Ah cs 23 1
  obtain ⟨q8,a1⟩:∃q,q=(cs.drop 23).take 1:=⟨_,rfl⟩
  rw[<-a1] at t8 s8
  have s9:=Ah cs 24 1
  obtain ⟨q9,X⟩:∃q,q=(cs.drop 24).take 1:=⟨_,rfl⟩
  rw[<-X] at t9 s9
  have C:=Ah cs 25 1
  obtain ⟨ab,z⟩:∃q,q=(cs.drop 25).take 1:=⟨_,rfl⟩
  rw[<-z] at w C
  have Q:cs.drop 26=[]:=by rw[<-f];exact zl
  simp only[Nat.reduceAdd] at p s1 s2 s3 s4 s5 s6 s7 s8 s9 C
  rw[zY] at p
  rw[s1] at p
  rw[s2] at p
  rw[s3] at p
  rw[s4] at p
  rw[s5] at p
  rw[s6] at p
  rw[s7] at p
  rw[s8] at p
  rw[s9] at p
  rw[C] at p
  rw[Q] at p
  obtain ⟨v0,e0,z0⟩:=F2 t0
  obtain ⟨v1,e1⟩:=BC n q1 _ _ t1 (fun k l=>g k (by
   rw[s.1,DataW.weights,qO]
   exact yB (j:=1) (t:=26) (d:=y1.1) rfl rfl _ l))
  obtain ⟨v2,e2⟩:=BC n q2 _ _ t2 (fun k l=>g k (by
   rw[s.1,DataW.weights,qO]
   exact yB (j:=2) (t:=26) (d:=y2.1) rfl rfl _ l))
  obtain ⟨v3,e3⟩:=BC n q3 _ _ t3 (fun k l=>g k (by
   rw[s.1,DataW.weights,qO]
   exact yB (j:=3) (t:=26) (d:=y3.1) rfl rfl _ l))
  obtain ⟨av,J⟩:∃v,q4=[v]:=zL.1 (by rw[a2,yP,xp,f];rfl)
  rw[J] at t4
  obtain ⟨T,l4,e4,O,aj⟩:=F1 (Pr:=fun cs x=>Hf (Ll W) W cs x) qG N9 Ts (by decide) (fun m _ cs d ps h g hl=>UW m cs d ps h g hl) t4 (fun k l=>g k (by
   rw[s.1,DataW.weights,qO]
   exact yB (j:=4) (t:=27) (d:=y4.1) rfl rfl _ l))
  rw[e4] at J
  obtain ⟨aq,F⟩:∃v,q5=[v]:=zL.1 (by rw[P,yP,xp,f];rfl)
  rw[F] at t5
  obtain ⟨a8,l5,e5,N,ak⟩:=F1 (Pr:=fun cs x=>F6 (Ll W) W cs x) qH MG RP (by decide) (fun m _ cs d ps h g hl=>Tv m cs d ps h g hl) t5 (fun k l=>g k (by
   rw[s.1,DataW.weights,qO]
   exact yB (j:=5) (t:=28) (d:=y5.1) rfl rfl _ l))
  rw[e5] at F
  obtain ⟨ao,B⟩:∃v,q6=[v]:=zL.1 (by rw[Z,yP,xp,f];rfl)
  rw[B] at t6
  obtain ⟨V,l6,e6,Ed,ah⟩:=F1 (Pr:=fun cs x=>CY (Ll W) W cs x) qI Lj Qs (by decide) (fun m _ cs d ps h g hl=>RT m cs d ps h g hl) t6 (fun k l=>g k (by
   rw[s.1,DataW.weights,qO]
   exact yB (j:=6) (t:=29) (d:=y6.1) rfl rfl _ l))
  rw[e6] at B
  obtain ⟨ar,I⟩:∃v,q7=[v]:=zL.1 (by rw[a0,yP,xp,f];rfl)
  rw[I] at t7
  obtain ⟨a7,l7,e7,Y,al⟩:=F1 (Pr:=fun cs x=>E9 (Ll W) W cs x) qK MH RQ (by decide) (fun m _ cs d ps h g hl=>Tw m cs d ps h g hl) t7 (fun k l=>g k (by
   rw[s.1,DataW.weights,qO]
   exact yB (j:=7) (t:=30) (d:=y7.1) rfl rfl _ l))
  rw[e7] at I
  obtain ⟨ap,G⟩:∃v,q8=[v]:=zL.1 (by rw[a1,yP,xp,f];rfl)
  rw[G] at t8
  obtain ⟨R,l8,e8,u,ai⟩:=F1 (Pr:=fun cs (x:AS × AF)=>I6 (Ll W) W x.2 cs x.1) qL MJ Tt (by decide) (fun m _ cs d ps h g hl=>UX m cs d ps h g hl) t8 (fun k l=>g k (by
   rw[s.1,DataW.weights,qO]
   exact yB (j:=8) (t:=31) (d:=y8.1) rfl rfl _ l))
  rw[e8] at G
  obtain ⟨au,K⟩:∃v,q9=[v]:=zL.1 (by rw[X,yP,xp,f];rfl)
  rw[K] at t9
  obtain ⟨U,l9,e9,a6,M⟩:=F1 (Pr:=fun cs x=>CQ (Ll W) W cs x) qM Lk Qt (by decide) (fun m _ cs d ps h g hl=>RU m cs d ps h g hl) t9 (fun k l=>g k (by
   rw[s.1,DataW.weights,qO]
   exact yB (j:=9) (t:=32) (d:=y9.1) rfl rfl _ l))
  rw[e9] at K
  obtain ⟨am,r⟩:∃v,ab=[v]:=zL.1 (by rw[z,yP,xp,f];rfl)
  rw[r] at w
  obtain ⟨y,ad,ac,A,D⟩:=F1 (Pr:=fun cs x=>Er (Ll W) W cs x) qN MK RS (by decide) (fun m _ cs d ps h g hl=>TA m cs d ps h g hl) w (fun k l=>g k (by
   rw[s.1,DataW.weights,qO]
   exact yB (j:=10) (t:=33) (d:=y10.1) rfl rfl _ l))
  rw[ac] at r
  refine ⟨⟨0,T,a8,V,a7,R,U,y,l8.map (·.2)⟩,⟨v0,v1,v2,v3,l4,l5,l6,l7,l8.map (·.1),l9,ad⟩,⟨z0,⟨q1,q2,q3,?_,e1,e2,e3⟩,O,N,Ed,Y,⟨?_,?_,fun i hi=>?_⟩,a6,A⟩,D,M⟩
  ·rw[p,e0,J,F,B,I,G,K,r];simp
  ·rw[yI];exact u.1
  ·rw[yI];exact u.2.1
  ·have S:i < l8.length:=by simpa using hi
   obtain ⟨b,o,c,g1,g2,g3,g4,g5⟩:=u.2.2 i S
   refine ⟨b,o,c,g1,g2,g3,g4,?_⟩
   have e:A5 ⟨0,T,a8,V,a7,R,U,y,l8.map (·.2)⟩ i=(l8[i]).2:=by
    unfold A5;simp[zW,S]
   rw[e]
   simpa using g5
end
end Go.Proofs.Ytghepahgkcigpaa
