/- Parts of the proof, in short words: Ka La Na Ga Gb Shelf Nb Oa Nc Nd Nf Ng Oe Oc Pe Rq Ea Eb Ef Fa Ec Sq Yo Wa -/
import Derived.Test.YtjofgpfocadomaaGreatDoorProg
import Derived.WalkKit
import Derived.WalkSpells
import Derived.Below
import Derived.Deep.MidRow
import Derived.Lib.Hide
import Derived.RangeFuncNested
import Derived.RangeFuncCalls
import Derived.RangeFuncLeaves
import Derived.Shelf.Small.Strs
import Derived.Shelf.Strings.Search1
import Derived.Shelf.Strings.Search2
import Derived.Shelf.Strings.Search3
import Derived.Shelf.LaysM
import Derived.Shelf.Strings.Shaped
import Derived.Laws.EntriesVeiled
import Derived.WalkLawsBesides
import Derived.Deep.QuietTactic
import Derived.BigQuiet
import Derived.Lib.IndexAny
import Derived.OwnWalkIn
import Derived.TacticsInMore
import Derived.LoopNIn
import Derived.LoopIn
import Derived.Maps.Own
import Derived.Maps.Views
import Derived.OrdersHeld
import Derived.Deep.RegionHeld3
import Derived.Orders
import Derived.OrdersIn
import Derived.TacticsIn
import Derived.ControlIn
import Derived.Great.BuildSlice
import Derived.Deep.Slices
import Derived.Deep.Fields
import Derived.ChangeSame
import Derived.OpenShut
import Derived.SizedLaws
set_option maxRecDepth 100000
set_option maxHeartbeats 4000000
set_option linter.unusedSimpArgs false
set_option linter.defProp false
namespace Go.Proofs.YtjofgpfocadomaaGreatDoor
open Go.RowKit
theorem yb{p:Prop}(h:p):Hid p:=h
theorem _root_.Go.RowKit.Hid.o{p:Prop}(h:Hid p):p:=h
def yd:=@Array.getElem?_eq_some_iff
def yf:=@Nat.le_refl
def yg:=@Below.refl
def yi:=@Option.some.inj
def yj:=@wpList_load_mid
def yk:=@List.getElem?_eq_getElem
def ym:=@Bool.eq_false_iff
def yn:=@List.length_append
def yq:=@if_neg
def yt:=@Nat.lt_of_lt_of_le
def yu:=@Nat.le_trans
def yv:=@List.mem_append
def yw:=@if_pos
def yx:=@List.getElem?_eq_some_iff
def yy:=@Nat.zero_add
def yz:=@List.length_cons
def yA:=@Below.heap_alloc
def yB:=@Array.getD_eq_getD_getElem?
def yC:=@DataW.weights_mem_each
def yD:=@congrArg
def yE:=@Bool.and_eq_true
def yF:=@List.take_succ_eq_append_getElem
def yG:=@List.append_assoc
def yH:=@List.length_nil
def yI:=@Nat.zero_le
def yJ:=@List.getElem_mem
def yK:=@List.cons_append
def yL:=@Array.getElem?_modify
def yM:=@List.size_toArray
def yN:=@List.getElem?_append_right
def yO:=@List.mem_cons
def yP:=@World.block_lt_of_cell?
def yQ:=@List.nil_append
def yR:=@of_decide_eq_true
def yS:=@List.take_length
def yT:=@decide_eq_true_eq
def yU:=@List.append_nil
def yV:=@List.length_map
def yW:=@List.all_eq_true
def yX:=@List.mem_flatMap
def yY:=@callsIn_wide
def yZ:=@Option.some.injEq
def z6:=@World.size_alloc
def za:=@List.not_mem_nil
def zb:=@all_oneCell_toArray
def zc:=@List.mem_iff_getElem
def ze:=@wpList_store_row
def zg:=@List.length_take
def zh:=@List.flatMap_cons
def zj:=@List.mem_range
def zk:=@List.getElem?_append_left
def zl:=@heap_setCell_other
def zm:=@CallsIn.mono
def zn:=@List.mem_singleton
def zo:=@List.flatMap_append
def zp:=@World.rangeAt_of_block
def zq:=@Prod.mk.injEq
def zr:=@heap_setCell_same
def zs:=@results_none
def zt:=@List.flatten_cons
def zu:=@List.map_cons
def zv:=@List.length_eq_zero_iff
def zw:=@bodyPost_ret
def zx:=@List.flatMap_nil
def zy:=@Array.all_eq_true_iff_forall_mem
def zA:=@WideShapes.add_plain
def zB:=@wpList_plain
def zC:=@List.map_append
def zD:=@Array.replicate_succ
def zE:=@Array.replicate_zero
def zF:=@List.length_zipIdx
def zG:=@Oper.semAt_some
def zH:=@List.getElem_map
def zI:=@List.flatMap_map
def zJ:=@List.drop_length
def zK:=@List.append_toArray
def zL:=@DataW.trod_struct
def zM:=@StepsIn.trans
def zN:=@List.map_nil
def zO:=@Nat.lt_or_ge
def zP:=@or_false
def zQ:=@List.length_eq_one_iff
def zR:=@List.push_toArray
def zS:=@Nat.add_assoc
def zT:=@List.cons.inj
def zU:=@if_true
def zV:=@List.take_append_drop
def zW:=@List.mem_of_getElem?
def zX:=@List.setIfInBounds_toArray
def zY:=@List.take_zero
def zZ:=@List.drop_zero
def xb:=@List.drop_eq_getElem_cons
def xd:=@Ne.symm
def xf:=@Array.mem_of_getElem?
def xg:=@List.getElem?_take
def xi:=@Option.bind_some
def xj:=@Sem.run_bind
def xk:=@List.map_flatMap
def xm:=@List.flatten_nil
def xp:=@getD_set_ne
def xq:=@decide_eq_true
def xr:=@List.forall_mem_cons
def xt:=@Nat.add_sub_cancel_left
def xu:=@List.all_eq_false
def xv:=@List.all_append
def xw:=@decide_eq_false
def xx:=@Option.map_some
def xy:=@ByteArray.toList_eq
def xz:=@Array.getElem?_eq_none
def xA:=@Int.eq_of_mul_eq_mul_right
def xB:=@List.ext_getElem
def xD:=@List.length_drop
def xE:=@mem_ready
def xF:=@List.getElem_append_right
def xG:=@List.getElem_append_left
def xH:=@Int.mul_le_mul_of_nonneg_left
def xI:=@Int.mul_pos
def xJ:=@List.mem_map
def xK:=@List.set_cons_zero
def xL:=@List.set_cons_succ
def xM:=@Below.heap_setCell
def xN:=@Nat.lt_of_le_of_lt
def xO:=@List.cons.injEq
def xP:=@List.getD_eq_getElem?_getD
def xQ:=@Result.andThen_ok
def xR:=@Nat.mul_le_mul_right
def xS:=@fenced_wide
def xT:=@stepR_block
def xU:=@wp_load_mid
def xV:=@List.zipIdx_cons
def xW:=@Nat.lt_succ_self
def xX:=@Value.pointer.injEq
def xY:=@List.getElem?_cons_zero
def xZ:=@Bool.eq_iff_iff
def qb:=@Array.any_eq_true'
def qc:=@List.take_of_length_le
def qd:=@List.zipWith_cons_cons
def qg:=@rounds_succ
def qi:=@Value.slice.injEq
def qj:=@run_underlying
def qk:=@Int.mul_le_mul
def qm:=@wpIn_wide
def qn:=@Lib.cell?_alloc_some
def qo:=@Nat.one_mul
def qp:=@Int.one_mul
def qr:=@List.getElem_zipIdx
def qt:=@List.foldl_cons
def qu:=@Nat.add_zero
def qv:=@true_and
def qw:=@Nat.le_of_lt
def qz:=@Go.ChangeShapes.open_int
def qA:=@Nat.mul_le_mul
def qB:=@Array.mk.injEq
def qC:=@wp_loop_rounds
def qD:=@setRow_heap
def qE:=@Addr.mk.injEq
def qF:=@Nat.lt_irrefl
def qG:=@Tryz.underlying107
def qH:=@Tryz.underlying109
def qI:=@Tryz.underlying131
def qJ:=@Tryz.underlying135
def qK:=@Tryz.underlying137
def qL:=@Tryz.underlying158
def qO:=@Tryz.underlying24
def qP:=@Tryz.underlying26
def qQ:=@Tryz.underlying27
def qR:=@Tryz.underlying28
def qS:=@Tryz.underlying29
def qT:=@Tryz.underlying3
def qU:=@Tryz.underlying30
def qV:=@Tryz.underlying31
def qW:=@Tryz.underlying32
def qX:=@Tryz.underlying33
def qY:=@Tryz.underlying35
def qZ:=@Tryz.underlying39
def j0:=@Tryz.underlying4
def j4:=@Tryz.underlying44
def j5:=@Tryz.underlying5
def j6:=@Tryz.underlying50
def j7:=@Tryz.underlying64
def j8:=@Tryz.underlying66
def j9:=@Tryz.underlying68
def ja:=@Tryz.underlying70
def jb:=@Tryz.underlying73
def jc:=@Tryz.underlying81
def jd:=@Tryz.underlying9
def je:=@Tryz.underlying92
def jf:=@Tryz.underlying94
abbrev iV (n:Int):Value:=.int .i64 n
abbrev aV (b o:Nat):Addr:=⟨b,o,none⟩
abbrev pV (b o:Nat):Value:=.pointer (some ⟨b,o,none⟩)
abbrev LV:=List Value
abbrev LB:=List ByteArray
abbrev NP:=Nat->Prop
abbrev QT:=Exit->Act->World->Prop
abbrev _root_.Go.World.z (w:World):Nat:=w.heap.size
abbrev jg:Array Value:=#[.int .i64 0,.int .i64 0,.int .i64 0,.int .i64 0,.int .i64 0,.int .i64 0]
abbrev jh:Array Value:=#[.int .i64 0,.int .i64 0]
abbrev ji:Array Value:=#[.int .i64 0,.int .i64 0,.int .i64 0]
abbrev jj:List Value:=[.int .i64 0,.int .i64 0,.int .i64 0]
abbrev jk:Array Value:=#[.int .i64 0]
abbrev jl:Array Value:=#[.slice none 0 0]
end Go.Proofs.YtjofgpfocadomaaGreatDoor
namespace Go.Proofs.YtjofgpfocadomaaGreatDoor
open Go.RowKit
variable{F:Fence}{n:Nat}{P:Program}
def PV(P:Program)(l:Nat)(R:Ending->World->Prop):Exit->Act->World->Prop
 |.normal,_,w=>∃v w',(Instr.endRound l none).run P w=.ok v w'∧R (.returned v) w'
 |.ret,_,w=>∃v w',(Instr.endRound l (some .ret)).run P w=.ok v w'∧R (.returned v) w'
 |.exit id,_,w=>∃v w',(Instr.endRound l (some (.exit id))).run P w=.ok v w'∧R (.returned v) w'
 |.goto t,_,w=>∃v w',(Instr.endRound l (some (.goto t))).run P w=.ok v w'∧R (.returned v) w'
 |.panic chain,a,w=>a.defers=[]∧R (.panicked chain) w
 |.outgrown,_,_=>False
theorem G2{l:Nat}{f:FuncId}{fn:Func}(E:P.funcs[f]?=some fn){tmps:Array Value}{assign body:Code}{w:World}{R:Ending->World->Prop}(I:F.fn f)
 (h:assign.wpIn (F.inRound l) n P (Exit.then (fun x D=>∃z,(Instr.beginRound l).run P D=.ok () z∧body.wpIn (F.inRound l) n P (PV P l R) x z) (fun _ _ _=>False))
   {tmps:=tmps,defers:=[]} w):
  RoundIn F n P l f tmps assign body w R:=by
 refine ⟨I,fun c cs hr=>?_⟩
 let b:Frame:={(default:Frame) with fn:=f,kind:=.normal,roundOf:=some l}
 have C:Frame.round l f tmps assign body .normal=b.atR {tmps:=tmps,defers:=[]} [.code assign,.beginRound,.code body]:=by
  simp[Frame.round,Frame.atR,b]
 have j:(F.inRound l).room ((c::cs).length+1+n):=hr
 have i:(F.inRound l).fn b.fn:=I
 obtain ⟨e,x,D,s,g⟩:=h b [.beginRound,.code body] (c::cs) rfl i j
 rw[<-C] at g
 cases e with
 |normal=>
  obtain ⟨z,B,q⟩:=s
  have y:StepsIn (Machine.fenced P (F.inRound l)) P (lone (b.atR x [.beginRound,.code body]) (c::cs) D) (lone (b.atR x [.code body]) (c::cs) z):=
   .one (fenced_calm (fr:=b.atR x [.beginRound,.code body]) i j rfl) (stepR_beginRound rfl B)
  obtain ⟨J,r,H,k,d⟩:=q b [] (c::cs) rfl i j
  cases J with
  |normal=>
   obtain ⟨v,p,a,m⟩:=k
   exact ⟨.returned v,p,m,(zM g y).trans (zM d (.one (fenced_calm (fr:=b.atR r []) i j rfl) (stepR_round_end rfl rfl a)))⟩
  |ret=>
   obtain ⟨v,p,a,m⟩:=k
   obtain ⟨u,hs⟩:=d.2 rfl
   exact ⟨.returned v,p,m,(zM g y).trans (zM hs (.one (fenced_calm (fr:=b.atR r (.code .ret::u)) i j rfl) (stepR_round_ret rfl rfl a)))⟩
  |exit id=>
   obtain ⟨v,p,a,m⟩:=k
   obtain ⟨u,A,hs⟩:=d.2 rfl rfl
   exact ⟨.returned v,p,m,(zM g y).trans (zM hs (.one (fenced_calm (fr:=b.atR r (.code (.exit id)::u)) i j rfl) (stepR_round_exit rfl rfl A a)))⟩
  |goto t=>
   obtain ⟨v,p,a,m⟩:=k
   obtain ⟨u,A,hs⟩:=d.2 rfl rfl
   exact ⟨.returned v,p,m,(zM g y).trans (zM hs (.one (fenced_calm (fr:=b.atR r (.code (.goto t)::u)) i j rfl) (stepR_round_goto rfl rfl A a)))⟩
  |panic chain=>
   obtain ⟨hd,m⟩:=k
   obtain ⟨o,hs⟩:=d
   have G:Frame.leaving P {b.atR r o with mode:=.panicking chain} H (.panicked chain):=⟨rfl,hd,fn,E⟩
   exact ⟨.panicked chain,H,m,(zM g y).trans (zM hs (.one (fenced_leaving (fr:={b.atR r o with mode:=.panicking chain}) i j G) (step_leave_panicked G)))⟩
  |outgrown=>exact k.elim
 |exit id=>exact s.elim
 |goto t=>exact s.elim
 |ret=>exact s.elim
 |panic chain=>exact s.elim
 |outgrown=>exact s.elim
def AN(O:NP)(W W':World):Prop:=W.heap.size<=W'.heap.size∧∀b,O b->W'.heap[b]?=W.heap[b]?
theorem AN.refl(O:NP)(W:World):AN O W W:=⟨yf _,fun _ _=>rfl⟩
theorem AN.trans{O:NP}{A B C:World}(h:AN O A B)(k:AN O B C):AN O A C:=⟨yu h.1 k.1,fun b hb=>(k.2 b hb).trans (h.2 b hb)⟩
theorem AN.sub{O a:NP}{A B:World}(h:AN O A B)(hs:∀b,a b->O b):AN a A B:=⟨h.1,fun b hb=>h.2 b (hs b hb)⟩
def Cd{β:Type}(J:β->NP->World->Prop):Prop:=
 ∀s O W a W',J s O W->W.heap.size<=W'.heap.size->W'.os=W.os->W'.tape=W.tape->W'.output=W.output->(∀b,¬ O b->b < W.heap.size->W'.heap[b]?=W.heap[b]?)->(∀b,a b->O b∨W.heap.size<=b)->J s a W'
def V7(F:Fence)(n:Nat)(P:Program)(g:Nat)(lb:Array Value)(Hd:World->Prop)(xs:List (Array Value))(own:Option (List PanicEntry)):Prop:=
 ∀(l:Nat) (J:Nat->NP->World->Prop) (Jx:NP->World->Prop) (Jp:List PanicEntry->NP->World->Prop) (W:World),
  Cd J->Cd (fun (_:Unit)=>Jx)->(∀a,Cd (fun (_:Unit)=>Jp a))->(∀k O W,J k O W->Hd W)->(∀O W,Jx O W->Hd W)->(∀a,own=some a->∀O W,J xs.length O W->Jp a O W)->
  (∀k (c:k < xs.length) O W1,J k O W1->W.heap.size<=W1.heap.size->(∀b,O b->W.heap.size<=b∧b < W1.heap.size)->YieldAt F (n - 1) P l xs[k] W1 fun e W'=>
   (e=.returned (.bool true)∧J (k+1) O W'∧AN O W1 W')∨(e=.returned (.bool false)∧Jx O W'∧AN O W1 W')∨(∃a,e=.panicked a∧Jp a O W'∧AN O W1 W'))->
  J 0 (fun _=>False) W->
  CallsIn F n P g (#[.func (.yield l) #[] #[]]++lb) W fun e W'=>
   ((∃v,e=.returned v)∧((own=none∧∃O,J xs.length O W')∨∃O,Jx O W'))∨∃a,e=.panicked a∧∃O,Jp a O W'
def FQ(f:FuncId)(P:Program)(c:Code)(Q:QT)(a:Act)(w:World):Prop:=
 ∀(b:Frame) (k:List Item) (cs:List Frame),b.roundOf=none->b.fn=f->
  ∃e d w',Q e d w'∧ArrivesIn (Machine.fenced P Fence.wide) P (lone (b.atR a (.code c::k)) cs w) b k cs e d w'
section
variable{f:FuncId}{Q:QT}{a:Act}{w:World}
theorem V8{c:Code}(h:c.wpIn Fence.wide n P Q a w):FQ f P c Q a w:=fun b k cs d _=>h b k cs d trivial (room_wide _)
theorem A4{c:Code}(h:c.wp P Q a w):FQ f P c Q a w:=V8 (n:=0) (qm.2 h)
theorem A9{x y:Code}(h:FQ f P x (Exit.then (FQ f P y Q) Q) a w):FQ f P (Code.seq x y) Q a w:=by
 intro b k cs i hb
 have h0:(lone (b.atR a (.code (.seq x y)::k)) cs w).fenced P Fence.wide:=xS _ _
 obtain ⟨e,j,m,g,c⟩:=h b (.code y::k) cs i hb
 cases e with
 |normal=>
  obtain ⟨o,q,p,n,d⟩:=g b k cs i hb
  exact ⟨o,q,p,n,.of_steps (.head h0 stepR_seq c) d⟩
 |exit id=>exact ⟨_,j,m,g,.of_steps (.one h0 stepR_seq) (.pass (x:=.code y) rfl (fun _ _=>.inl (by simp)) c)⟩
 |goto l=>exact ⟨_,j,m,g,.of_steps (.one h0 stepR_seq) (.pass (x:=.code y) rfl (fun _ _=>.inl (by simp)) c)⟩
 |ret=>exact ⟨_,j,m,g,.of_steps (.one h0 stepR_seq) (.pass (x:=.code y) rfl (fun _ _=>.inl (by simp)) c)⟩
 |panic ch=>exact ⟨_,j,m,g,.of_steps (.one h0 stepR_seq) (.pass (x:=.code y) rfl (fun _ _=>.inl (by simp)) c)⟩
 |outgrown=>exact ⟨_,j,m,g,.of_steps (.one h0 stepR_seq) (.pass (x:=.code y) rfl (fun _ _=>.inl (by simp)) c)⟩
theorem De{id:Nat}{c:Code}(h:FQ f P c (Exit.inBlock id Q) a w):FQ f P (Code.block id c) Q a w:=by
 intro b k cs q hb
 have h0:(lone (b.atR a (.code (.block id c)::k)) cs w).fenced P Fence.wide:=xS _ _
 obtain ⟨e,j,o,g,d⟩:=h b (.inBlock id::k) cs q hb
 cases e with
 |normal=>exact ⟨.normal,j,o,g,.head h0 xT (zM d (.one (xS _ _) stepR_inBlock))⟩
 |exit id'=>
  by_cases i:id'=id
  ·simp only[Exit.inBlock,i,zU] at g
   exact ⟨.normal,j,o,g,.head h0 xT (d.1 k (by simp[exitTo,i]))⟩
  ·simp only[Exit.inBlock,i,if_false] at g
   have this:(id==id')=false:=by simp;exact fun h=>i h.symm
   have p:exitTo id' (.inBlock id::k)=exitTo id' k:=by simp[exitTo,this]
   exact ⟨.exit id',j,o,g,fun k' m=>.head h0 xT (d.1 k' (by rw[p];exact m)),
    fun n m=>let ⟨k₁,h1,h2⟩:=d.2 n (by rw[p];exact m);⟨k₁,h1,.head h0 xT h2⟩⟩
 |goto l=>
  have p:gotoIn l (.inBlock id::k)=gotoIn l k:=by simp[gotoIn]
  exact ⟨_,j,o,g,fun k' m=>.head h0 xT (d.1 k' (by rw[p];exact m)),
   fun n m=>let ⟨k₁,h1,h2⟩:=d.2 n (by rw[p];exact m);⟨k₁,h1,.head h0 xT h2⟩⟩
 |ret=>exact ⟨_,j,o,g,.of_steps (.one h0 xT) d⟩
 |panic ch=>exact ⟨_,j,o,g,.of_steps (.one h0 xT) d⟩
 |outgrown=>exact ⟨_,j,o,g,.of_steps (.one h0 xT) d⟩
end
def VY(O:NP)(J:Nat->NP->World->Prop)(Jx:Code->NP->World->Prop)(Jp:List PanicEntry->NP->World->Prop)(k:Nat)(W:World):Exit->Act->World->Prop
 |.normal,_,W'=>AN O W W'∧J (k+1) O W'
 |.ret,_,W'=>AN O W W'∧Jx .ret O W'
 |.exit id,_,W'=>AN O W W'∧Jx (.exit id) O W'
 |.goto t,_,W'=>AN O W W'∧Jx (.goto t) O W'
 |.panic ch,a,W'=>a.defers=[]∧AN O W W'∧Jp ch O W'
 |.outgrown,_,_=>False
theorem Cd.put{β:Type}{J:β->NP->World->Prop}(h:Cd J){s:β}{O:NP}{W:World}{l:Nat}(a:O l)(o:Obj)(hs:J s O W):J s O (W.putObj l o):=
 h s O W O _ hs (by simp) rfl rfl rfl (fun b hb _=>World.putObj_heap_other (fun e=>hb (e▸a))) (fun b hb=>.inl hb)
theorem H2{f:FuncId}{g:Operand}{ps:Array Tmp}{assign body:Code}{Q:QT}{a:Act}{w:World}
 (h:∃(l:Nat) (m:List Deferred) (D:World) (d:Deferred) (s:World) (gf:FuncId) (args:Array Value) (C:World),
   (Instr.enterLoop f a.tmps ps assign body none).run P w=.ok (l,m) D∧
   (resolve a.eval (rangeCall g l) 0).run P D=.ok d s∧
   (invoke d.target d.args).run P s=.ok (.enter gf args) C∧
   CallsIn Fence.wide (n - 1) P gf args C (rangePost Fence.wide n P l Q {a with defers:=m++a.defers})):
  FQ f P (Code.rangeFunc g ps assign body) Q a w:=by
 intro b k cs t hb
 obtain ⟨l,m,D,d,s,gf,args,C,G,x,y,O,r⟩:=h
 rw[<-t,<-hb] at G
 have i:=stepR_rangeFunc (P:=P) (b:=b) (a:=a) (k:=k) (cs:=cs) (w:=w) G x y
 obtain ⟨e,N,fr,B,j,L,o⟩:=r (b.atR {a with defers:=m++a.defers} (.inRangeFunc l::k)::cs) (room_wide _)
 cases e with
 |outgrown=>
  obtain ⟨I,J,E⟩:=B
  exact ⟨.outgrown,I,J,E,.inr (Outgrown.of_steps (.one i) j)⟩
 |returned v=>
  obtain ⟨q,F,u,H⟩:=B
  have p:StepsIn (Machine.fenced P Fence.wide) P (lone (b.atR a (.code (.rangeFunc g ps assign body)::k)) cs w) (lone (b.atR {a with defers:=m++a.defers} ((q.map Item.code).toList++k)) cs F):=by
   refine .head (xS _ _) i (zM j (.head (xS _ _) ?_ (.one (xS _ _) (stepR_endRangeFunc u))))
   rw[<-finish_atR_inRangeFunc l v];exact step_leave_returned o
  cases q with
  |none=>exact ⟨.normal,_,F,H,p⟩
  |some c=>
   obtain ⟨K,A,M,E,z⟩:=H b k cs t trivial (room_wide _)
   exact ⟨K,A,M,E,.of_steps p z⟩
 |panicked chain=>
  refine ⟨.panic chain,_,N,B,.inRangeFunc l::k,.head (xS _ _) i (zM j (.one (xS _ _) ?_))⟩
  rw[<-Frame.raise_atR];exact step_leave_panicked o
theorem CK{f:FuncId}{fn:Func}(hf:P.funcs[f]?=some fn){g:Operand}{ps:Array Tmp}{assign body:Code}{Q:QT}{a:Act}{w:World}
 {gf:Nat}{lb:Array Value}(hg:a.eval g=.func (.func gf) #[] lb)(eg:∀args w,(callFunc gf args).run P w=.ok (.enter gf args) w)
 {Hd:World->Prop}{xs:List (Array Value)}{own:Option (List PanicEntry)}(a6:V7 Fence.wide (n - 1) P gf lb Hd xs own)(aj:∀x∈xs,x.size=ps.size)
 (J:Nat->NP->World->Prop)(Jx:Code->NP->World->Prop)(Jp:List PanicEntry->NP->World->Prop)(A:Nat->Act->NP->World->Prop)
 (hJ:Cd J)(G:∀c,Cd (fun (_:Unit)=>Jx c))(ai:∀y,Cd (fun (_:Unit)=>Jp y))(hA:∀a,Cd (fun k=>A k a))(ad:∀k O W,J k O W->Hd W)(aa:∀c O W,Jx c O W->Hd W)(a2:∀y,own=some y->∀O W,J xs.length O W->Jp y O W)
 (h0:J 0 (fun _=>False) w)
 (F:∀k (hk:k < xs.length) O W l,J k O W->O l->(∃r,W.heap[l]?=some (.loop r))->(∀b,O b->b < W.heap.size)->assign.wpIn (Fence.wide.inRound l) (n - 1 - 1) P (Exit.then (fun T W₁=>AN O W W₁∧A k T O W₁) (fun _ _ _=>False))
   {tmps:=(ps.zip xs[k]).foldl (fun t (p,v)=>t.setIfInBounds p v) a.tmps,defers:=[]} W)
 (V:∀k (_:k < xs.length) O W l T,O l->(∃r,W.heap[l]?=some (.loop r))->(∀b,O b->b < W.heap.size)->A k T O W->body.wpIn (Fence.wide.inRound l) (n - 1 - 1) P (VY O J Jx Jp k W) T W)
 (X:own=none->∀D O W,w.heap.size<=D->O D->J xs.length O W->W.heap[D]?=some (.deferred (some []))->Q .normal {a with defers:={target:=.collected D,args:=#[]}::a.defers} W)
 (Y:∀D c O W,w.heap.size<=D->O D->Jx c O W->W.heap[D]?=some (.deferred (some []))->c.wpIn Fence.wide n P Q {a with defers:={target:=.collected D,args:=#[]}::a.defers} W)
 (N:∀D y O W,w.heap.size<=D->O D->Jp y O W->W.heap[D]?=some (.deferred (some []))->Q (.panic y) {a with defers:={target:=.collected D,args:=#[]}::a.defers} W):
  FQ f P (Code.rangeFunc g ps assign body) Q a w:=by
 refine H2 (n:=n) ?_
 obtain ⟨j,o⟩:∃j:LoopState->Option Code->Loop,j=fun st pe=>{state:=st,pending:=pe,fn:=f,tmps:=a.tmps,params:=ps,assign,body,defers:=w.heap.size}:=⟨_,rfl⟩
 obtain ⟨z,H⟩:∃z,(w.alloc (.deferred (some []))).alloc (.loop (j .ready none))=z:=⟨_,rfl⟩
 have al:z.heap.size=w.heap.size+2:=by rw[<-H];simp
 have ac:z.heap[w.heap.size+1]?=some (.loop (j .ready none)):=by
  rw[<-H];have:=World.alloc_heap_new (w.alloc (.deferred (some []))) (.loop (j .ready none));rwa [z6] at this
 have ag:z.heap[w.heap.size]?=some (.deferred (some [])):=by
  rw[<-H];exact (yA _ _ _ (by simp)).trans (World.alloc_heap_new w _)
 have af:J 0 (fun b=>False∨b=w.heap.size∨b=w.heap.size+1) z:=by
  rw[<-H]
  refine hJ 0 _ w _ _ h0 (by simp;omega) rfl rfl rfl (fun b _ hb=>?_) (fun b hb=>.inr ?_)
  ·rw[yA _ _ _ (by simp;omega),yA _ _ _ hb]
  ·rcases hb with hb|rfl|rfl
   ·exact hb.elim
   ·exact yf _
   ·omega
 refine ⟨w.heap.size+1,[{target:=.collected w.heap.size,args:=#[]}],z,{target:=.fn (.func gf) lb,args:=#[.func (.yield (w.heap.size+1)) #[] #[]]},z,gf,
  #[.func (.yield (w.heap.size+1)) #[] #[]]++lb,z,?_,?_,?_,?_⟩
 ·rw[<-H,o];exact run_enterLoop_outer _ _ _ _ _
 ·simp only[resolve,hg]
  simp[go_sem]
 ·simp[invoke,go_sem,eg]
 generalize hD:w.heap.size=D at*
 generalize hl:D+1=l at*
 have ak:D < l:=by omega
 refine (a6 l
  (fun k O W=>J k (fun b=>O b∨b=D∨b=l) W∧W.heap[l]?=some (.loop (j .ready none))∧W.heap[D]?=some (.deferred (some []))∧(∀b,O b->z.heap.size<=b)∧z.heap.size<=W.heap.size)
  (fun O W=>∃c,Jx c (fun b=>O b∨b=D∨b=l) W∧W.heap[l]?=some (.loop (j .done (some c)))∧W.heap[D]?=some (.deferred (some []))∧(∀b,O b->z.heap.size<=b)∧z.heap.size<=W.heap.size)
  (fun y O W=>Jp y (fun b=>O b∨b=D∨b=l) W∧W.heap[D]?=some (.deferred (some []))∧(∀b,O b->z.heap.size<=b)∧z.heap.size<=W.heap.size) z ?_ ?_ ?_ ?_ ?_ ?_ ?_ ⟨af,ac,ag,fun b hb=>hb.elim,yf _⟩).mono ?_
 ·rintro k O W O' W' ⟨h1,h2,h3,q,Z⟩ hz S ht hu i R
  refine ⟨hJ k _ W _ W' h1 hz S ht hu (fun b hb C=>i b (fun h=>hb (.inl h)) C) (fun b hb=>?_),?_,?_,fun b hb=>?_,by omega⟩
  ·rcases hb with hb|hb
   ·rcases R b hb with h|h
    ·exact .inl (.inl h)
    ·exact .inr h
   ·exact .inl (.inr hb)
  ·exact (i l (fun h=>by have:=q l h;omega) (yd.1 h2).1).trans h2
  ·exact (i D (fun h=>by have:=q D h;omega) (yd.1 h3).1).trans h3
  ·rcases R b hb with h|h
   ·exact q b h
   ·omega
 ·rintro _ O W O' W' ⟨c,h1,h2,h3,q,Z⟩ hz S ht hu i R
  refine ⟨c,G c () _ W _ W' h1 hz S ht hu (fun b hb C=>i b (fun h=>hb (.inl h)) C) (fun b hb=>?_),?_,?_,fun b hb=>?_,by omega⟩
  ·rcases hb with hb|hb
   ·rcases R b hb with h|h
    ·exact .inl (.inl h)
    ·exact .inr h
   ·exact .inl (.inr hb)
  ·exact (i l (fun h=>by have:=q l h;omega) (yd.1 h2).1).trans h2
  ·exact (i D (fun h=>by have:=q D h;omega) (yd.1 h3).1).trans h3
  ·rcases R b hb with h|h
   ·exact q b h
   ·omega
 ·rintro y _ O W O' W' ⟨h1,h3,q,Z⟩ hz S ht hu i R
  refine ⟨ai y () _ W _ W' h1 hz S ht hu (fun b hb C=>i b (fun h=>hb (.inl h)) C) (fun b hb=>?_),?_,fun b hb=>?_,by omega⟩
  ·rcases hb with hb|hb
   ·rcases R b hb with h|h
    ·exact .inl (.inl h)
    ·exact .inr h
   ·exact .inl (.inr hb)
  ·exact (i D (fun h=>by have:=q D h;omega) (yd.1 h3).1).trans h3
  ·rcases R b hb with h|h
   ·exact q b h
   ·omega
 ·exact fun k O W h=>ad k _ W h.1
 ·exact fun O W h=>h.elim fun c h=>aa c _ W h.1
 ·exact fun y he O W h=>⟨a2 y he _ W h.1,h.2.2.1,h.2.2.2.1,h.2.2.2.2⟩
 ·
  rintro k hk O W ⟨h1,h2,h3,q,Z⟩ hz ah
  have hy:=run_yield (P:=P) (args:=xs[k]) h2 (by rw[o];exact aj _ (yJ hk))
  rw[o] at hy
  have ab:∀b,(O b∨b=D∨b=l)->b < W.heap.size:=fun b hb=>by
   rcases hb with hb|hb|hb
   ·exact (ah b hb).2
   ·rw[hb];exact (yd.1 h3).1
   ·rw[hb];exact (yd.1 h2).1
  refine ⟨f,_,assign,body,hy,G2 hf trivial (wpIn_mono (F k hk _ W l h1 (.inr (.inr rfl)) ⟨_,h2⟩ ab) ?_)⟩
  clear hy
  rintro e T Wa E
  cases e with
  |normal=>
   obtain ⟨hs,ae⟩:=E
   have I:=(hs.2 l (.inr (.inr rfl))).trans h2
   have K:=(hs.2 D (.inr (.inl rfl))).trans h3
   have C:=(yd.1 I).1
   refine ⟨_,run_beginRound I (by rw[o]),?_⟩
   have a0:(Wa.putObj l (.loop {j .ready none with state:=.busy})).heap[l]?=some (.loop {j .ready none with state:=.busy}):=World.putObj_heap_same C
   have a8:(Wa.putObj l (.loop {j .ready none with state:=.busy})).heap[D]?=some (.deferred (some [])):=(World.putObj_heap_other (by omega)).trans K
   refine wpIn_mono (V k hk _ _ l T (.inr (.inr rfl)) ⟨_,a0⟩ (fun b hb=>by have:=ab b hb;have:=hs.1;simp;omega) ((hA T).put (.inr (.inr rfl)) _ ae)) ?_
   have M:∀(d:Option Code) (B:World),AN (fun b=>O b∨b=D∨b=l) (Wa.putObj l (.loop {j .ready none with state:=.busy})) B->
     (Instr.endRound l d).run P B=.ok (.bool d.isNone) (B.putObj l (.loop (j (if d.isNone then .ready else .done) d)))∧
     (B.putObj l (.loop (j (if d.isNone then .ready else .done) d))).heap[l]?=some (.loop (j (if d.isNone then .ready else .done) d))∧
     (B.putObj l (.loop (j (if d.isNone then .ready else .done) d))).heap[D]?=some (.deferred (some []))∧
     z.heap.size<=(B.putObj l (.loop (j (if d.isNone then .ready else .done) d))).heap.size∧
     AN O W (B.putObj l (.loop (j (if d.isNone then .ready else .done) d))):=fun d B m=>by
    have a7:=(m.2 l (.inr (.inr rfl))).trans a0
    have hr:=run_endRound (P:=P) d a7
    rw[o] at hr ⊢
    have z1:=hs.1
    have z3:Wa.heap.size<=B.heap.size:=by have:=m.1;simpa using this
    refine ⟨hr,World.putObj_heap_same (yd.1 a7).1,(World.putObj_heap_other (by omega)).trans ((m.2 D (.inr (.inl rfl))).trans a8),by simp;omega,by simp;omega,fun b hb=>?_⟩
    have L:b≠l:=fun e=>by have:=q b hb;subst e;omega
    rw[World.putObj_heap_other L,m.2 b (.inl hb),World.putObj_heap_other L,hs.2 b (.inl hb)]
   rintro e a3 B E
   cases e with
   |normal=>
    obtain ⟨m,u⟩:=E
    obtain ⟨hr,g1,I,K,U⟩:=M none B m
    exact ⟨_,_,hr,.inl ⟨rfl,⟨hJ.put (.inr (.inr rfl)) _ u,g1,I,q,K⟩,U⟩⟩
   |ret=>
    obtain ⟨m,u⟩:=E
    obtain ⟨hr,g1,I,K,U⟩:=M (some .ret) B m
    exact ⟨_,_,hr,.inr (.inl ⟨rfl,⟨.ret,(G .ret).put (s:=()) (.inr (.inr rfl)) _ u,g1,I,q,K⟩,U⟩)⟩
   |exit id=>
    obtain ⟨m,u⟩:=E
    obtain ⟨hr,g1,I,K,U⟩:=M (some (.exit id)) B m
    exact ⟨_,_,hr,.inr (.inl ⟨rfl,⟨.exit id,(G (.exit id)).put (s:=()) (.inr (.inr rfl)) _ u,g1,I,q,K⟩,U⟩)⟩
   |goto t=>
    obtain ⟨m,u⟩:=E
    obtain ⟨hr,g1,I,K,U⟩:=M (some (.goto t)) B m
    exact ⟨_,_,hr,.inr (.inl ⟨rfl,⟨.goto t,(G (.goto t)).put (s:=()) (.inr (.inr rfl)) _ u,g1,I,q,K⟩,U⟩)⟩
   |panic y=>
    obtain ⟨hd,m,u⟩:=E
    have z1:=hs.1
    have z3:Wa.heap.size<=B.heap.size:=by have:=m.1;simpa using this
    refine ⟨hd,.inr (.inr ⟨y,rfl,⟨u,(m.2 D (.inr (.inl rfl))).trans a8,q,by omega⟩,by omega,fun b hb=>?_⟩)⟩
    have L:b≠l:=fun e=>by have:=q b hb;subst e;omega
    rw[m.2 b (.inl hb),World.putObj_heap_other L,hs.2 b (.inl hb)]
   |outgrown=>exact E.elim
  |exit id=>exact E.elim
  |goto t=>exact E.elim
  |ret=>exact E.elim
  |panic y=>exact E.elim
  |outgrown=>exact E.elim
 ·
  rintro e W2 (⟨⟨v,rfl⟩,(⟨S,O,h1,h2,h3,q,Z⟩|⟨O,c,h1,h2,h3,q,Z⟩)⟩|⟨y,rfl,O,h1,h2,q,Z⟩)
  ·exact ⟨none,_,by have:=run_endLoop (P:=P) h2 (by rw[o];simp);rw[o] at this;exact this,X S D _ _ (yf _) (.inr (.inl rfl)) (hJ.put (.inr (.inr rfl)) _ h1) ((World.putObj_heap_other (by omega)).trans h3)⟩
  ·exact ⟨some c,_,by have:=run_endLoop (P:=P) h2 (by rw[o];simp);rw[o] at this;exact this,Y D c _ _ (yf _) (.inr (.inl rfl)) ((G c).put (s:=()) (.inr (.inr rfl)) _ h1) ((World.putObj_heap_other (by omega)).trans h3)⟩
  ·exact N D y _ W2 (yf _) (.inr (.inl rfl)) h1 h2
theorem Bg{f:FuncId}{fn:Func}{c:Code}{args:Array Value}{w:World}{R:Ending->World->Prop}(t:P.funcs[f]?=some fn)(hb:fn.body=some c)
 (h:FQ f P c (bodyPostM Fence.wide n P fn R) {tmps:=args++Array.replicate (fn.ntmps - args.size) undef,defers:=[]} w):Calls P f args w R:=by
 refine (yY (n:=n)).1 ⟨trivial,fun cs hr=>?_⟩
 let b:Frame:={(default:Frame) with fn:=f,kind:=.normal,roundOf:=none}
 have k:Frame.enter P f args .normal=
   b.atR {tmps:=args++Array.replicate (fn.ntmps - args.size) undef,defers:=[]} [.code c]:=by
  simp[Frame.enter,Frame.atR,t,hb,b]
 obtain ⟨e,o,w',p,a⟩:=h b [] cs rfl rfl
 rw[<-k] at a
 cases e with
 |normal=>
  obtain ⟨s,g,d,q,hs,j,r⟩:=leaves_stepsInM o.defers .returning w' {b.atR o [] with mode:=.returning} cs rfl rfl rfl t rfl trivial hr p
  exact ⟨s,g,d,q,ComesIn.of_steps (zM a (.one (xS _ _) (stepR_end rfl))) hs,j,r⟩
 |ret=>
  obtain ⟨i,m⟩:=a.1 rfl
  obtain ⟨s,g,d,q,hs,j,r⟩:=leaves_stepsInM o.defers .returning w' {b.atR o i with mode:=.returning} cs rfl rfl rfl t rfl trivial hr p
  exact ⟨s,g,d,q,ComesIn.of_steps m hs,j,r⟩
 |panic chain=>
  obtain ⟨i,m⟩:=a
  obtain ⟨s,g,d,q,hs,j,r⟩:=leaves_stepsInM o.defers (.panicking chain) w' {b.atR o i with mode:=.panicking chain} cs rfl rfl rfl t rfl trivial hr p
  exact ⟨s,g,d,q,ComesIn.of_steps m hs,j,r⟩
 |exit id=>exact p.elim
 |goto l=>exact p.elim
 |outgrown=>exact ⟨.outgrown,w',b,p,a.resolve_left (by simp[b]),rfl,trivial⟩
end Go.Proofs.YtjofgpfocadomaaGreatDoor
namespace Go.Proofs.YtjofgpfocadomaaGreatDoor
open Go.RowKit
inductive Ex where
 |mk (op n u:Int) (rn:ByteArray) (ri:Int) (args:List Ex)
namespace Ex
def op:Ex->Int|.mk o _ _ _ _ _=>o
def n:Ex->Int|.mk _ n _ _ _ _=>n
def u:Ex->Int|.mk _ _ u _ _ _=>u
def rn:Ex->ByteArray|.mk _ _ _ r _ _=>r
def ri:Ex->Int|.mk _ _ _ _ i _=>i
def args:Ex->List Ex|.mk _ _ _ _ _ l=>l
end Ex
mutual
def AI(N:NP)(w:World):Ex->LV->Prop
 |.mk op n u rn ri args,cs=>∃a cap,cs=[.int .i64 op,.int .i64 n,.int .i64 u,.string rn,.int .i64 ri,.slice a args.length cap]∧args.length<=140737488355328∧rn.size<=maxLen∧Df N w a 0 args
def Df(N:NP)(w:World)(a:Option Addr):Nat->List Ex->Prop
 |_,[]=>True
 |i,e::r=>(∃b o cs,a=some ⟨b,o,none⟩∧N b∧w.rangeAt b (o+i*6) cs∧AI N w e cs)∧Df N w a (i+1) r
end
def Tp(N:NP)(w:World)(v:Value)(l:List Ex):Prop:=∃a cap,v=.slice a l.length cap∧l.length<=140737488355328∧Df N w a 0 l
theorem DX{N:NP}{w:World}{a:Option Addr}:∀ {l:List Ex} {k:Nat},Df N w a k l->∀i (h:i < l.length),∃b o cs,a=some ⟨b,o,none⟩∧N b∧w.rangeAt b (o+(k+i)*6) cs∧AI N w l[i] cs
 |[],_,_,i,h=>by simp at h
 |e::r,k,hr,i,h=>by
  rw[Df] at hr
  cases i with
  |zero=>exact hr.1
  |succ i=>
   obtain ⟨b,o,cs,h1,h2,h3,c⟩:=DX hr.2 i (by simpa using h)
   exact ⟨b,o,cs,h1,h2,by rw[show k+(i+1)=k+1+i by omega];exact h3,by simpa using c⟩
theorem Ri{N:NP}{w:World}{a:Option Addr}:∀ {l:List Ex} {k:Nat},(∀i (h:i < l.length),∃b o cs,a=some ⟨b,o,none⟩∧N b∧w.rangeAt b (o+(k+i)*6) cs∧AI N w l[i] cs)->Df N w a k l
 |[],_,_=>by rw[Df];trivial
 |e::r,k,h=>by
  rw[Df]
  refine ⟨h 0 (by simp),Ri fun i hi=>?_⟩
  obtain ⟨b,o,cs,h1,h2,h3,c⟩:=h (i+1) (by simpa using hi)
  exact ⟨b,o,cs,h1,h2,by rw[show k+1+i=k+(i+1) by omega];exact h3,by simpa using c⟩
theorem A0{w w':World}{b o:Nat}{cs:LV}(h:w.rangeAt b o cs)(hb:w'.heap[b]?=w.heap[b]?):w'.rangeAt b o cs:=fun j v a=>by
 have:=h j v a
 unfold World.cell? at this ⊢
 rw[hb];exact this
mutual
theorem AI.same{N N':NP}{w w':World}(d:∀b,N b->N' b)(hb:∀b,N b->w'.heap[b]?=w.heap[b]?):∀ {e:Ex} {cs:LV},AI N w e cs->AI N' w' e cs
 |.mk _ _ _ _ _ args,_,h=>by
  rw[AI] at h ⊢
  obtain ⟨a,cap,h1,h2,h3,c⟩:=h
  exact ⟨a,cap,h1,h2,h3,Df.same d hb c⟩
theorem Df.same{N N':NP}{w w':World}{a:Option Addr}(c:∀b,N b->N' b)(hb:∀b,N b->w'.heap[b]?=w.heap[b]?):∀ {l:List Ex} {k:Nat},Df N w a k l->Df N' w' a k l
 |[],_,h=>by rw[Df];trivial
 |e::r,k,h=>by
  rw[Df] at h ⊢
  obtain ⟨⟨b,o,cs,h1,h2,h3,f⟩,d⟩:=h
  exact ⟨⟨b,o,cs,h1,c b h2,A0 h3 (hb b h2),AI.same c hb f⟩,Df.same c hb d⟩
end
theorem Tp.same{N N':NP}{w w':World}{v:Value}{l:List Ex}(c:∀b,N b->N' b)(hb:∀b,N b->w'.heap[b]?=w.heap[b]?)(h:Tp N w v l):Tp N' w' v l:=by
 obtain ⟨a,cap,h1,h2,h3⟩:=h
 exact ⟨a,cap,h1,h2,Df.same c hb h3⟩
mutual
def At:Ex->Nat
 |.mk _ _ _ _ _ args=>AW args
def AW:List Ex->Nat
 |[]=>0
 |e::r=>max (1+At e) (AW r)
end
mutual
theorem Jl{P:Ex->Prop}(h:∀op n u rn ri args,(∀e∈args,P e)->P (.mk op n u rn ri args)):∀e,P e
 |.mk op n u rn ri args=>h op n u rn ri args (Rj h args)
theorem Rj{P:Ex->Prop}(h:∀op n u rn ri args,(∀e∈args,P e)->P (.mk op n u rn ri args)):∀l:List Ex,∀e∈l,P e
 |[]=>fun _ a=>by simp at a
 |x::r=>fun e a=>(yO.1 a).elim (fun q=>q▸Jl h x) (Rj h r e)
end
theorem JO:∀(l:List Ex) (e:Ex),AW (l++[e])=max (AW l) (1+At e)
 |[],e=>by simp[AW]
 |x::r,e=>by
  rw[yK,AW,AW,JO r e,Nat.max_assoc]
theorem JP{l:List Ex}{i:Nat}(h:i < l.length):AW (l.take (i+1))=max (AW (l.take i)) (1+At l[i]):=by
 rw[yF h,JO]
theorem Jm:∀(l:List Ex) (i:Nat),AW (l.take i)<=AW l
 |[],i=>by simp
 |x::r,0=>by simp[AW]
 |x::r,i+1=>by
  rw[List.take_succ_cons,AW,AW]
  have:=Jm r i
  omega
theorem PW{l:List Ex}{i:Nat}(h:i < l.length):1+At l[i]<=AW l:=by
 have h1:=JP h
 have h2:=Jm l (i+1)
 omega
theorem AI.cells{N:NP}{w:World}{e:Ex}{cs:LV}(h:AI N w e cs):∃a cap,cs=[.int .i64 e.op,.int .i64 e.n,.int .i64 e.u,.string e.rn,.int .i64 e.ri,.slice a e.args.length cap]∧e.args.length<=140737488355328∧e.rn.size<=maxLen∧Df N w a 0 e.args:=by
 cases e
 rw[AI] at h
 exact h
theorem AI.mk'{N:NP}{w:World}{e:Ex}{a:Option Addr}{cap:Nat}(h1:e.args.length<=140737488355328)(h2:e.rn.size<=maxLen)(h3:Df N w a 0 e.args):
  AI N w e [.int .i64 e.op,.int .i64 e.n,.int .i64 e.u,.string e.rn,.int .i64 e.ri,.slice a e.args.length cap]:=by
 cases e
 rw[AI]
 exact ⟨a,cap,rfl,h1,h2,h3⟩
theorem Br{w:World}{b o:Nat}{x0 f d a e c:Value}(h:w.rangeAt b o [x0,f,d,a,e,c]):w.cell? ⟨b,o,none⟩=some x0∧w.cell? ⟨b,o+1,none⟩=some f∧w.cell? ⟨b,o+2,none⟩=some d∧w.cell? ⟨b,o+3,none⟩=some a∧w.cell? ⟨b,o+4,none⟩=some e∧w.cell? ⟨b,o+5,none⟩=some c:=
 ⟨h 0 _ rfl,h 1 _ rfl,h 2 _ rfl,h 3 _ rfl,h 4 _ rfl,h 5 _ rfl⟩
theorem Ei{N:NP}{B:Nat}{w w':World}(hN:∀b,N b->b < B)(hb:Below B w w'):∀b,N b->w'.heap[b]?=w.heap[b]?:=fun b h=>hb.block b (hN b h)
set_option linter.unusedSimpArgs false
theorem H3(n:Int):IntKind.u64.wrap n=n % 18446744073709551616:=by
 unfold IntKind.wrap;simp (decide:=true) [IntKind.signed,IntKind.bits]
theorem FR(n:Int)(h1: -4611686018427387904<=n)(h2:n<=4611686018427387904)(w:World):Calls Tryz.prog 28 #[.int .i64 n] w fun e w'=>e=.returned (.int .u64 (n.natAbs:Int))∧w'=w:=by
 have b:n < 0->IntKind.u64.wrap (-IntKind.u64.wrap n)=(n.natAbs:Int):=by
  intro a;rw[H3,H3];omega
 go_enter Tryz.func28,Tryz.ntmps28
 by_cases a:n < 0
 ·have c:=b a
  go_wp2
  go_ret
  exact ⟨rfl,rfl⟩
 ·clear b
  have hd:decide (n < 0)=false:=by simpa using a
  go_wp2
  go_ret
  exact ⟨yD (fun z=>Ending.returned (Value.int IntKind.u64 z)) (show n=(n.natAbs:Int) by omega),rfl⟩
end Go.Proofs.YtjofgpfocadomaaGreatDoor
namespace Go.Proofs.YtjofgpfocadomaaGreatDoor
open Go.RowKit
variable{F:Fence}{n:Nat}{P:Program}
def WU(F:Fence)(n:Nat)(P:Program)(g:Nat)(lb:Array Value)(K:NP)(c:World)(Hd:World->Prop)(xs:List (Array Value))(own:Option (List PanicEntry)):Prop:=
 ∀(l:Nat) (J:Nat->NP->World->Prop) (Jx:NP->World->Prop) (Jp:List PanicEntry->NP->World->Prop) (W:World),
  Cd J->Cd (fun (_:Unit)=>Jx)->(∀a,Cd (fun (_:Unit)=>Jp a))->(∀k O W,J k O W->Hd W)->(∀O W,Jx O W->Hd W)->(∀a,own=some a->∀O W,J xs.length O W->Jp a O W)->
  (∀k (d:k < xs.length) O W1,J k O W1->W.heap.size<=W1.heap.size->(∀b,O b->(K b∨W.heap.size<=b)∧b < W1.heap.size)->YieldAt F (n - 1) P l xs[k] W1 fun e W'=>
   (e=.returned (.bool true)∧J (k+1) O W'∧AN O W1 W')∨(e=.returned (.bool false)∧Jx O W'∧AN O W1 W')∨(∃a,e=.panicked a∧Jp a O W'∧AN O W1 W'))->
  (∀b,K b->b < W.heap.size)->AN K c W->J 0 K W->
  CallsIn F n P g (#[.func (.yield l) #[] #[]]++lb) W fun e W'=>
   ((∃v,e=.returned v)∧((own=none∧∃O,J xs.length O W')∨∃O,Jx O W'))∨∃a,e=.panicked a∧∃O,Jp a O W'
theorem O9{f:FuncId}{fn:Func}(hf:P.funcs[f]?=some fn){g:Operand}{ps:Array Tmp}{assign body:Code}{Q:QT}{a:Act}{w:World}
 {gf:Nat}{lb:Array Value}(hg:a.eval g=.func (.func gf) #[] lb)(eg:∀args w,(callFunc gf args).run P w=.ok (.enter gf args) w)
 {Hd:World->Prop}{xs:List (Array Value)}{own:Option (List PanicEntry)}{K:NP}(hK:∀b,K b->b < w.heap.size)(a7:WU Fence.wide (n - 1) P gf lb K w Hd xs own)(al:∀x∈xs,x.size=ps.size)
 (J:Nat->NP->World->Prop)(Jx:Code->NP->World->Prop)(Jp:List PanicEntry->NP->World->Prop)(A:Nat->Act->NP->World->Prop)
 (hJ:Cd J)(I:∀c,Cd (fun (_:Unit)=>Jx c))(ak:∀y,Cd (fun (_:Unit)=>Jp y))(hA:∀a,Cd (fun k=>A k a))(ae:∀k O W,J k O W->Hd W)(ab:∀c O W,Jx c O W->Hd W)(a6:∀y,own=some y->∀O W,J xs.length O W->Jp y O W)
 (h0:J 0 K w)
 (H:∀k (hk:k < xs.length) O W l,J k O W->O l->(∃r,W.heap[l]?=some (.loop r))->(∀b,O b->b < W.heap.size)->assign.wpIn (Fence.wide.inRound l) (n - 1 - 1) P (Exit.then (fun V W₁=>AN O W W₁∧A k V O W₁) (fun _ _ _=>False))
   {tmps:=(ps.zip xs[k]).foldl (fun t (p,v)=>t.setIfInBounds p v) a.tmps,defers:=[]} W)
 (Y:∀k (_:k < xs.length) O W l V,O l->(∃r,W.heap[l]?=some (.loop r))->(∀b,O b->b < W.heap.size)->A k V O W->body.wpIn (Fence.wide.inRound l) (n - 1 - 1) P (VY O J Jx Jp k W) V W)
 (Z:own=none->∀D O W,w.heap.size<=D->O D->J xs.length O W->W.heap[D]?=some (.deferred (some []))->Q .normal {a with defers:={target:=.collected D,args:=#[]}::a.defers} W)
 (a0:∀D c O W,w.heap.size<=D->O D->Jx c O W->W.heap[D]?=some (.deferred (some []))->c.wpIn Fence.wide n P Q {a with defers:={target:=.collected D,args:=#[]}::a.defers} W)
 (S:∀D y O W,w.heap.size<=D->O D->Jp y O W->W.heap[D]?=some (.deferred (some []))->Q (.panic y) {a with defers:={target:=.collected D,args:=#[]}::a.defers} W):
  FQ f P (Code.rangeFunc g ps assign body) Q a w:=by
 refine H2 (n:=n) ?_
 obtain ⟨j,o⟩:∃j:LoopState->Option Code->Loop,j=fun st pe=>{state:=st,pending:=pe,fn:=f,tmps:=a.tmps,params:=ps,assign,body,defers:=w.heap.size}:=⟨_,rfl⟩
 obtain ⟨z,G⟩:∃z,(w.alloc (.deferred (some []))).alloc (.loop (j .ready none))=z:=⟨_,rfl⟩
 have an:z.heap.size=w.heap.size+2:=by rw[<-G];simp
 have ad:z.heap[w.heap.size+1]?=some (.loop (j .ready none)):=by
  rw[<-G];have:=World.alloc_heap_new (w.alloc (.deferred (some []))) (.loop (j .ready none));rwa [z6] at this
 have ai:z.heap[w.heap.size]?=some (.deferred (some [])):=by
  rw[<-G];exact (yA _ _ _ (by simp)).trans (World.alloc_heap_new w _)
 have ah:J 0 (fun b=>K b∨b=w.heap.size∨b=w.heap.size+1) z:=by
  rw[<-G]
  refine hJ 0 _ w _ _ h0 (by simp;omega) rfl rfl rfl (fun b _ hb=>?_) (fun b hb=>?_)
  ·rw[yA _ _ _ (by simp;omega),yA _ _ _ hb]
  ·rcases hb with hb|rfl|rfl
   ·exact .inl hb
   ·exact .inr (yf _)
   ·exact .inr (by omega)
 have af:AN K w z:=by
  rw[<-G]
  exact ⟨by simp;omega,fun b hb=>by rw[yA _ _ _ (by have:=hK b hb;simp;omega),yA _ _ _ (hK b hb)]⟩
 refine ⟨w.heap.size+1,[{target:=.collected w.heap.size,args:=#[]}],z,{target:=.fn (.func gf) lb,args:=#[.func (.yield (w.heap.size+1)) #[] #[]]},z,gf,
  #[.func (.yield (w.heap.size+1)) #[] #[]]++lb,z,?_,?_,?_,?_⟩
 ·rw[<-G,o];exact run_enterLoop_outer _ _ _ _ _
 ·simp only[resolve,hg]
  simp[go_sem]
 ·simp[invoke,go_sem,eg]
 generalize hD:w.heap.size=D at*
 generalize hl:D+1=l at*
 have am:D < l:=by omega
 have B:∀b,K b->b < D:=hK
 refine (a7 l
  (fun k O W=>J k (fun b=>O b∨b=D∨b=l) W∧W.heap[l]?=some (.loop (j .ready none))∧W.heap[D]?=some (.deferred (some []))∧(∀b,O b->K b∨z.heap.size<=b)∧z.heap.size<=W.heap.size)
  (fun O W=>∃c,Jx c (fun b=>O b∨b=D∨b=l) W∧W.heap[l]?=some (.loop (j .done (some c)))∧W.heap[D]?=some (.deferred (some []))∧(∀b,O b->K b∨z.heap.size<=b)∧z.heap.size<=W.heap.size)
  (fun y O W=>Jp y (fun b=>O b∨b=D∨b=l) W∧W.heap[D]?=some (.deferred (some []))∧(∀b,O b->K b∨z.heap.size<=b)∧z.heap.size<=W.heap.size) z ?_ ?_ ?_ ?_ ?_ ?_ ?_ (fun b hb=>by have:=B b hb;omega) af ⟨ah,ad,ai,fun b hb=>.inl hb,yf _⟩).mono ?_
 ·rintro k O W O' W' ⟨h1,h2,h3,q,h5⟩ hz U ht hu i T
  refine ⟨hJ k _ W _ W' h1 hz U ht hu (fun b hb E=>i b (fun h=>hb (.inl h)) E) (fun b hb=>?_),?_,?_,fun b hb=>?_,by omega⟩
  ·rcases hb with hb|hb
   ·rcases T b hb with h|h
    ·exact .inl (.inl h)
    ·exact .inr h
   ·exact .inl (.inr hb)
  ·exact (i l (fun h=>by have:=q l h;have:=B l;grind) (yd.1 h2).1).trans h2
  ·exact (i D (fun h=>by have:=q D h;have:=B D;grind) (yd.1 h3).1).trans h3
  ·rcases T b hb with h|h
   ·exact q b h
   ·exact .inr (by omega)
 ·rintro _ O W O' W' ⟨c,h1,h2,h3,q,h5⟩ hz U ht hu i T
  refine ⟨c,I c () _ W _ W' h1 hz U ht hu (fun b hb E=>i b (fun h=>hb (.inl h)) E) (fun b hb=>?_),?_,?_,fun b hb=>?_,by omega⟩
  ·rcases hb with hb|hb
   ·rcases T b hb with h|h
    ·exact .inl (.inl h)
    ·exact .inr h
   ·exact .inl (.inr hb)
  ·exact (i l (fun h=>by have:=q l h;have:=B l;grind) (yd.1 h2).1).trans h2
  ·exact (i D (fun h=>by have:=q D h;have:=B D;grind) (yd.1 h3).1).trans h3
  ·rcases T b hb with h|h
   ·exact q b h
   ·exact .inr (by omega)
 ·rintro y _ O W O' W' ⟨h1,h3,q,h5⟩ hz U ht hu i T
  refine ⟨ak y () _ W _ W' h1 hz U ht hu (fun b hb E=>i b (fun h=>hb (.inl h)) E) (fun b hb=>?_),?_,fun b hb=>?_,by omega⟩
  ·rcases hb with hb|hb
   ·rcases T b hb with h|h
    ·exact .inl (.inl h)
    ·exact .inr h
   ·exact .inl (.inr hb)
  ·exact (i D (fun h=>by have:=q D h;have:=B D;grind) (yd.1 h3).1).trans h3
  ·rcases T b hb with h|h
   ·exact q b h
   ·exact .inr (by omega)
 ·exact fun k O W h=>ae k _ W h.1
 ·exact fun O W h=>h.elim fun c h=>ab c _ W h.1
 ·exact fun y he O W h=>⟨a6 y he _ W h.1,h.2.2.1,h.2.2.2.1,h.2.2.2.2⟩
 ·
  rintro k hk O W ⟨h1,h2,h3,q,h5⟩ hz aj
  have hy:=run_yield (P:=P) (args:=xs[k]) h2 (by rw[o];exact al _ (yJ hk))
  rw[o] at hy
  have ac:∀b,(O b∨b=D∨b=l)->b < W.heap.size:=fun b hb=>by
   rcases hb with hb|hb|hb
   ·exact (aj b hb).2
   ·rw[hb];exact (yd.1 h3).1
   ·rw[hb];exact (yd.1 h2).1
  refine ⟨f,_,assign,body,hy,G2 hf trivial (wpIn_mono (H k hk _ W l h1 (.inr (.inr rfl)) ⟨_,h2⟩ ac) ?_)⟩
  clear hy
  rintro e V Wa F
  cases e with
  |normal=>
   obtain ⟨hs,ag⟩:=F
   have L:=(hs.2 l (.inr (.inr rfl))).trans h2
   have M:=(hs.2 D (.inr (.inl rfl))).trans h3
   have E:=(yd.1 L).1
   refine ⟨_,run_beginRound L (by rw[o]),?_⟩
   have a2:(Wa.putObj l (.loop {j .ready none with state:=.busy})).heap[l]?=some (.loop {j .ready none with state:=.busy}):=World.putObj_heap_same E
   have aa:(Wa.putObj l (.loop {j .ready none with state:=.busy})).heap[D]?=some (.deferred (some [])):=(World.putObj_heap_other (by omega)).trans M
   refine wpIn_mono (Y k hk _ _ l V (.inr (.inr rfl)) ⟨_,a2⟩ (fun b hb=>by have:=ac b hb;have:=hs.1;simp;omega) ((hA V).put (.inr (.inr rfl)) _ ag)) ?_
   have R:∀(d:Option Code) (C:World),AN (fun b=>O b∨b=D∨b=l) (Wa.putObj l (.loop {j .ready none with state:=.busy})) C->
     (Instr.endRound l d).run P C=.ok (.bool d.isNone) (C.putObj l (.loop (j (if d.isNone then .ready else .done) d)))∧
     (C.putObj l (.loop (j (if d.isNone then .ready else .done) d))).heap[l]?=some (.loop (j (if d.isNone then .ready else .done) d))∧
     (C.putObj l (.loop (j (if d.isNone then .ready else .done) d))).heap[D]?=some (.deferred (some []))∧
     z.heap.size<=(C.putObj l (.loop (j (if d.isNone then .ready else .done) d))).heap.size∧
     AN O W (C.putObj l (.loop (j (if d.isNone then .ready else .done) d))):=fun d C m=>by
    have a8:=(m.2 l (.inr (.inr rfl))).trans a2
    have hr:=run_endRound (P:=P) d a8
    rw[o] at hr ⊢
    have z1:=hs.1
    have z3:Wa.heap.size<=C.heap.size:=by have:=m.1;simpa using this
    refine ⟨hr,World.putObj_heap_same (yd.1 a8).1,(World.putObj_heap_other (by omega)).trans ((m.2 D (.inr (.inl rfl))).trans aa),by simp;omega,by simp;omega,fun b hb=>?_⟩
    have N:b≠l:=fun e=>by have:=q b hb;have:=B b;subst e;grind
    rw[World.putObj_heap_other N,m.2 b (.inl hb),World.putObj_heap_other N,hs.2 b (.inl hb)]
   rintro e a3 C F
   cases e with
   |normal=>
    obtain ⟨m,u⟩:=F
    obtain ⟨hr,g1,L,M,X⟩:=R none C m
    exact ⟨_,_,hr,.inl ⟨rfl,⟨hJ.put (.inr (.inr rfl)) _ u,g1,L,q,M⟩,X⟩⟩
   |ret=>
    obtain ⟨m,u⟩:=F
    obtain ⟨hr,g1,L,M,X⟩:=R (some .ret) C m
    exact ⟨_,_,hr,.inr (.inl ⟨rfl,⟨.ret,(I .ret).put (s:=()) (.inr (.inr rfl)) _ u,g1,L,q,M⟩,X⟩)⟩
   |exit id=>
    obtain ⟨m,u⟩:=F
    obtain ⟨hr,g1,L,M,X⟩:=R (some (.exit id)) C m
    exact ⟨_,_,hr,.inr (.inl ⟨rfl,⟨.exit id,(I (.exit id)).put (s:=()) (.inr (.inr rfl)) _ u,g1,L,q,M⟩,X⟩)⟩
   |goto t=>
    obtain ⟨m,u⟩:=F
    obtain ⟨hr,g1,L,M,X⟩:=R (some (.goto t)) C m
    exact ⟨_,_,hr,.inr (.inl ⟨rfl,⟨.goto t,(I (.goto t)).put (s:=()) (.inr (.inr rfl)) _ u,g1,L,q,M⟩,X⟩)⟩
   |panic y=>
    obtain ⟨hd,m,u⟩:=F
    have z1:=hs.1
    have z3:Wa.heap.size<=C.heap.size:=by have:=m.1;simpa using this
    refine ⟨hd,.inr (.inr ⟨y,rfl,⟨u,(m.2 D (.inr (.inl rfl))).trans aa,q,by omega⟩,by omega,fun b hb=>?_⟩)⟩
    have N:b≠l:=fun e=>by have:=q b hb;have:=B b;subst e;grind
    rw[m.2 b (.inl hb),World.putObj_heap_other N,hs.2 b (.inl hb)]
   |outgrown=>exact F.elim
  |exit id=>exact F.elim
  |goto t=>exact F.elim
  |ret=>exact F.elim
  |panic y=>exact F.elim
  |outgrown=>exact F.elim
 ·
  rintro e W2 (⟨⟨v,rfl⟩,(⟨U,O,h1,h2,h3,q,h5⟩|⟨O,c,h1,h2,h3,q,h5⟩)⟩|⟨y,rfl,O,h1,h2,q,h5⟩)
  ·exact ⟨none,_,by have:=run_endLoop (P:=P) h2 (by rw[o];simp);rw[o] at this;exact this,Z U D _ _ (yf _) (.inr (.inl rfl)) (hJ.put (.inr (.inr rfl)) _ h1) ((World.putObj_heap_other (by omega)).trans h3)⟩
  ·exact ⟨some c,_,by have:=run_endLoop (P:=P) h2 (by rw[o];simp);rw[o] at this;exact this,a0 D c _ _ (yf _) (.inr (.inl rfl)) ((I c).put (s:=()) (.inr (.inr rfl)) _ h1) ((World.putObj_heap_other (by omega)).trans h3)⟩
  ·exact S D y _ W2 (yf _) (.inr (.inl rfl)) h1 h2
end Go.Proofs.YtjofgpfocadomaaGreatDoor
namespace Go.Proofs
open Go.Shelf
def Tryz.lays137_ren:Go.Shelf.Ren:=⟨fun|137=>105|217=>107|266=>111|n=>n,fun|9=>9|5=>5|3=>3|n=>n,fun|n=>n⟩
theorem Tryz.lays137:Go.Proofs.Lays.n137 Tryz.prog Tryz.lays137_ren:={
 mixed:=by kernel_rfl
 f137:=Tryz.func105.trans (congrArg some (by kernel_rfl))
 f217:=Tryz.func107.trans (congrArg some (by kernel_rfl))
 f266:=Tryz.func111.trans (congrArg some (by kernel_rfl))
 t3:=Tryz.underlying3
 a3:=Tryz.isAgg3
 z3:=Tryz.sizeOf3
 v3:=Tryz.zeroValue3
 t5:=Tryz.underlying5
 a5:=Tryz.isAgg5
 z5:=Tryz.sizeOf5
 v5:=Tryz.zeroValue5
 t9:=Tryz.underlying9
 a9:=Tryz.isAgg9
 z9:=Tryz.sizeOf9
 v9:=Tryz.zeroValue9}
open Go.RowKit in
theorem Tryz.strings_IndexByte(s:ByteArray)(c:Int)(w:World):
  Calls Tryz.prog 105 #[.string s,.int .u8 c] w fun e w'=>e=.returned (.int .i64 (Lib.indexByte s.data.toList c.toNat.toUInt8))∧w'=w:=Any.strings_IndexByte Tryz.lays137 s c w
def Tryz.lays144_ren:Go.Shelf.Ren:=⟨fun|144=>81|143=>100|219=>106|217=>107|225=>108|224=>109|267=>110|266=>111|314=>112|n=>n,fun|9=>9|4=>4|3=>3|5=>5|46=>73|146=>194|51=>193|n=>n,fun|1=>6|n=>n⟩
theorem Tryz.lays144:Go.Proofs.Lays.n144 Tryz.prog Tryz.lays144_ren:={
 mixed:=by kernel_rfl
 f143:=Tryz.func100.trans (congrArg some (by kernel_rfl))
 f144:=Tryz.func81.trans (congrArg some (by kernel_rfl))
 f217:=Tryz.func107.trans (congrArg some (by kernel_rfl))
 f219:=Tryz.func106.trans (congrArg some (by kernel_rfl))
 f224:=Tryz.func109.trans (congrArg some (by kernel_rfl))
 f225:=Tryz.func108.trans (congrArg some (by kernel_rfl))
 f266:=Tryz.func111.trans (congrArg some (by kernel_rfl))
 f267:=Tryz.func110.trans (congrArg some (by kernel_rfl))
 f314:=Tryz.func112.trans (congrArg some (by kernel_rfl))
 t3:=Tryz.underlying3
 a3:=Tryz.isAgg3
 z3:=Tryz.sizeOf3
 v3:=Tryz.zeroValue3
 t4:=Tryz.underlying4
 a4:=Tryz.isAgg4
 z4:=Tryz.sizeOf4
 v4:=Tryz.zeroValue4
 t5:=Tryz.underlying5
 a5:=Tryz.isAgg5
 z5:=Tryz.sizeOf5
 v5:=Tryz.zeroValue5
 t9:=Tryz.underlying9
 a9:=Tryz.isAgg9
 z9:=Tryz.sizeOf9
 v9:=Tryz.zeroValue9
 t46:=Tryz.underlying73
 a46:=Tryz.isAgg73
 z46:=Tryz.sizeOf73
 v46:=Tryz.zeroValue73
 t51:=Tryz.underlying193
 a51:=Tryz.isAgg193
 z51:=Tryz.sizeOf193
 v51:=Tryz.zeroValue193
 t146:=Tryz.underlying194
 a146:=Tryz.isAgg194
 z146:=Tryz.sizeOf194
 v146:=Tryz.zeroValue194
 g1:=by kernel_rfl}
open Go.RowKit Go.Lib in
theorem Tryz.strings_Contains(s sub:ByteArray)(m:Int)(w:World)(hs:s.size < 4294967281)(hm:w.cell? ⟨6,0,none⟩=some (.int .i64 m)):
  Calls Tryz.prog 81 #[.string s,.string sub] w fun e w'=>e=.returned (.bool (Lib.contains s.data.toList sub.data.toList))∧w'=w:=Any.strings_Contains Tryz.lays144 s sub m w hs hm
def Tryz.laysM144_ren:Go.Shelf.Ren:=⟨fun|144=>81|143=>100|219=>106|217=>107|225=>108|224=>109|267=>110|266=>111|314=>112|n=>n,fun|9=>9|4=>4|3=>3|5=>5|46=>73|146=>194|51=>193|n=>n,fun|1=>6|n=>n⟩
theorem Tryz.laysM144:Go.Proofs.LaysM.n144 Tryz.prog Tryz.laysM144_ren:={
 mixed:=by kernel_rfl
 f143:=Tryz.func100.trans (congrArg some (by kernel_rfl))
 f144:=Tryz.func81.trans (congrArg some (by kernel_rfl))
 f217:=Tryz.func107.trans (congrArg some (by kernel_rfl))
 f219:=Tryz.func106.trans (congrArg some (by kernel_rfl))
 f224:=Tryz.func109.trans (congrArg some (by kernel_rfl))
 f225:=Tryz.func108.trans (congrArg some (by kernel_rfl))
 f266:=Tryz.func111.trans (congrArg some (by kernel_rfl))
 f267:=Tryz.func110.trans (congrArg some (by kernel_rfl))
 f314:=Tryz.func112.trans (congrArg some (by kernel_rfl))
 t3:=Tryz.underlying3
 a3:=Tryz.isAgg3
 z3:=Tryz.sizeOf3
 v3:=Tryz.zeroValue3
 t4:=Tryz.underlying4
 a4:=Tryz.isAgg4
 z4:=Tryz.sizeOf4
 v4:=Tryz.zeroValue4
 t5:=Tryz.underlying5
 a5:=Tryz.isAgg5
 z5:=Tryz.sizeOf5
 v5:=Tryz.zeroValue5
 t9:=Tryz.underlying9
 a9:=Tryz.isAgg9
 z9:=Tryz.sizeOf9
 v9:=Tryz.zeroValue9
 t46:=Tryz.underlying73
 a46:=Tryz.isAgg73
 z46:=Tryz.sizeOf73
 v46:=Tryz.zeroValue73
 t51:=Tryz.underlying193
 a51:=Tryz.isAgg193
 z51:=Tryz.sizeOf193
 v51:=Tryz.zeroValue193
 t146:=Tryz.underlying194
 a146:=Tryz.isAgg194
 z146:=Tryz.sizeOf194
 v146:=Tryz.zeroValue194
 g1:=by kernel_rfl
 i3:=by kernel_rfl
 i4:=by kernel_rfl
 i5:=by kernel_rfl
 i9:=by kernel_rfl
 i46:=by kernel_rfl
 i51:=by kernel_rfl
 i146:=by kernel_rfl
 m1:=by kernel_rfl
 s1_3:=fun w h=>Go.Proofs.cell_of_shapedOpen_int (zero:=#[.int .i64 0]) (t:=3) h (of_decide_eq_true (by kernel_rfl)) (by kernel_rfl) rfl (by kernel_rfl) (by kernel_rfl) Tryz.underlying3}
end Go.Proofs
namespace Go.Proofs.YtjofgpfocadomaaGreatDoor
open Go.RowKit
theorem Kt{k:IntKind}{a b:Int}(h:a=b):Ending.returned (.int k a)=.returned (.int k b):=by rw[h]
theorem AK{a b:Bool}(h:a=b):Ending.returned (.bool a)=.returned (.bool b):=by rw[h]
theorem Cw(e:Int)(w:World):Calls Tryz.prog 69 #[.bool true,.int .i64 e] w fun x w'=>x=.returned (.tuple #[])∧w'=w:=by
 go_enter Tryz.func69,Tryz.ntmps69
 go_wp2
 go_end0
 exact ⟨rfl,rfl⟩
theorem Co(e:Int)(w:World):Calls Tryz.prog 69 #[.bool false,.int .i64 e] w fun x w'=>x=.panicked [{v:=.iface 40 (.int .i64 e),recovered:=false}]∧w'=w:=by
 go_enter Tryz.func69,Tryz.ntmps69
 go_wp2
 exact ⟨rfl,rfl,rfl⟩
theorem Sb:∀(e:Ex) {N:NP} {w:World} {cs:LV},AI N w e cs->(∀b,N b->b < w.heap.size)->At e<=1000000->
  Calls Tryz.prog 79 #[.agg cs.toArray] w fun x w'=>x=.returned (.int .i64 (At e))∧Below w.heap.size w w':=by
 refine Jl fun op nn u rn ri args ih=>?_
 intro N w cs h hN hd
 rw[AI] at h
 obtain ⟨a,cap,rfl,P,hr,j⟩:=h
 have v:=yb j
 have y:=yb hN
 have Q:=yb ih
 have I:At (.mk op nn u rn ri args)=AW args:=rfl
 rw[I] at hd ⊢
 have E:=yb hd
 generalize L:args.length=m at P ⊢
 have K:=yb L
 clear j hN ih I hd L
 go_enter Tryz.func79,Tryz.ntmps79
 go_wp2
 go_loopw [2,8] (fun U F wr=>∃i:Nat,U=iV (AW (args.take i))∧F=iV i∧i<=m∧Hid (Below w.heap.size w wr)) (fun _ F _=>m - (intOf F).toNat)
 case atStart=>exact ⟨0,by simp[AW],rfl,yI _,yb ((yg _ _).alloc (yf _) _)⟩
 case round=>
  obtain ⟨i,rfl,rfl,hi,r⟩:=hrel
  by_cases D:i < m
  ·have d:i < args.length:=by rw[K.o];exact D
   obtain ⟨b,o,cs,rfl,z,t,f⟩:=DX v.o i d
   have l:=AI.same (fun b h=>h) (Ei y.o r.o) f
   have c:=A0 t (r.o.block b (y.o b z))
   obtain ⟨R,s,rfl,_⟩:=f.cells
   rw[yy] at c
   obtain ⟨c0,c1,c2,c3,c4,c5⟩:=Br c
   have p:=PW d
   have g:=JP d
   have G:=Jm args (i+1)
   have J:=yb (fun (W:World) (H:Below w.heap.size w W)=>Q.o args[i] (yJ d) (AI.same (fun b h=>h) (Ei y.o H) f) (fun b h=>yt (y.o b h) H.size) (by have:=E.o;omega))
   generalize args[i]=x at*
   have k:=yb (r.o.alloc r.o.size (.cells #[iV x.op,iV x.n,iV x.u,.string x.rn,iV x.ri,.slice R x.args.length s] 26))
   have O:(i:Int) < (m:Int):=by omega
   generalize hdx:At x=M at p g J ⊢
   have S:=yb hdx
   generalize A:AW (args.take i)=T at g ⊢
   have C:=yb g
   have h1:(M:Int)<=1000000:=by have:=E.o;omega
   have h2:(T:Int)<=1000000:=by have:=E.o;omega
   clear f l t c hdx A p g G
   go_wp2_with fail
   refine (J.o _ k.o).mono ?_
   rintro e w2 ⟨rfl,q⟩
   have B:=yb (k.o.trans (q.mono k.o.size))
   clear q
   go_wp2
   refine ⟨⟨i+1,?_,by go_num,by omega,B⟩,by simp[intOf];omega⟩
   rw[C.o]
   congr 1
   first|(split<;>omega)|omega
  ·obtain rfl:i=m:=by omega
   go_wp2
   go_ret
   refine ⟨Kt (by rw[<-K.o,yS]),r.o⟩
def CO(c:UInt8):Bool:=(97<=c.toNat&&c.toNat<=122)||(65<=c.toNat&&c.toNat<=90)
def Jn(c:UInt8):Bool:=48<=c.toNat&&c.toNat<=57
def KJ(c:UInt8):Bool:=c.toNat==32||c.toNat==9||c.toNat==10||c.toNat==13
def Fz(c:UInt8):Bool:=CO c||Jn c||c.toNat==95
def Tq:List UInt8:=[123,125,40,41,59,44,61,58,46,60,62,33,43,45,42,47]
def Rk(c:UInt8):Bool:=Tq.contains c
def Ct(c:UInt8):Int:=if CO c then 2 else if Jn c then 3 else if c.toNat==95 then 5 else if KJ c then 1 else if Rk c then 4 else 0
theorem Ni{c:UInt8}(h:(97<=c.toNat∧c.toNat<=122)∨(65<=c.toNat∧c.toNat<=90)):Ct c=2:=by
 have:CO c=true:=by simp[CO];omega
 simp[Ct,this]
theorem nl{c:UInt8}(h:¬ ((97<=c.toNat∧c.toNat<=122)∨(65<=c.toNat∧c.toNat<=90))):CO c=false:=by
 rw[ym];simp[CO];omega
theorem Oa{c:UInt8}(h:48<=c.toNat∧c.toNat<=57):Ct c=3:=by
 have:Jn c=true:=by simp[Jn];omega
 simp[Ct,this,nl (c:=c) (by omega)]
theorem nd{c:UInt8}(h:¬ (48<=c.toNat∧c.toNat<=57)):Jn c=false:=by
 rw[ym];simp[Jn];omega
theorem PX{c:UInt8}(h:c.toNat=95):Ct c=5:=by
 simp[Ct,nd (c:=c) (by omega),nl (c:=c) (by omega),h]
theorem Ob{c:UInt8}(h:c.toNat=32∨c.toNat=9∨c.toNat=10∨c.toNat=13):Ct c=1:=by
 have:KJ c=true:=by simp[KJ];omega
 have h2:(c.toNat==95)=false:=by rw[ym];simp;omega
 simp[Ct,nd (c:=c) (by omega),nl (c:=c) (by omega),h2,this]
theorem PY{c:UInt8}(h:¬ ((97<=c.toNat∧c.toNat<=122)∨(65<=c.toNat∧c.toNat<=90)))(h1:¬ (48<=c.toNat∧c.toNat<=57))(h2:¬ c.toNat=95)
 (h3:¬ (c.toNat=32∨c.toNat=9∨c.toNat=10∨c.toNat=13)):Ct c=if Rk c then 4 else 0:=by
 have a:KJ c=false:=by rw[ym];simp[KJ];omega
 simp[Ct,nd h1,nl h,h2,a]
theorem Tr(c:UInt8):(decide (0<=Lib.indexByte Tq ((c.toNat:Int)).toNat.toUInt8))=Rk c:=by
 have:((c.toNat:Int)).toNat.toUInt8=c:=by simp
 rw[this];exact (Lib.contains_iff_indexByte Tq c).symm
theorem PZ(c:UInt8)(w:World):Calls Tryz.prog 105 #[.string {data:=#[123,125,40,41,59,44,61,58,46,60,62,33,43,45,42,47]},.int .u8 (c.toNat:Int)] w fun e w'=>∃n:Int,e=.returned (.int .i64 n)∧decide (0<=n)=Rk c∧w=w':=
 (Tryz.strings_IndexByte _ _ w).mono fun _ _ h=>⟨_,h.1,Tr c,h.2.symm⟩
theorem Hy(c:UInt8)(w:World):
  Calls Tryz.prog 99 #[.int .u8 (c.toNat:Int)] w fun e w'=>e=.returned (.int .i64 (Ct c))∧w=w':=by
 generalize hN:Ct c=N
 have b:=yb hN;clear hN
 go_enter Tryz.func99,Tryz.ntmps99
 go_wp2_with (first|(go_at_call 105;refine (PZ _ _).mono ?_;rintro e w' ⟨n,rfl,a,rfl⟩;have d:=yb a;clear a))
 all_goals
  go_ret
  refine ⟨Kt ?_,rfl⟩
  rw[<-b.o]
  try simp only[beq_iff_eq,beq_eq_false_iff_ne,ne_eq] at*
  first
  |exact (Ni (by omega)).symm
  |exact (Oa (by omega)).symm
  |exact (PX (by omega)).symm
  |exact (Ob (by omega)).symm
  |(rw[PY (by omega) (by omega) (by omega) (by omega),<-d.o];simp[*])
def G3:List UInt8->Bool
 |[]=>false
 |c::r=>decide ((c::r).length<=32)&&CO c&&(c::r).all Fz
theorem Sc(s:ByteArray)(k:Nat)(h:k < s.size):s.data.toList.take (k+1)=s.data.toList.take k++[s[k]]:=by
 rw[yF (by simpa using h)];rfl
theorem FT(s:ByteArray):s.data.toList.length=s.size:=by simp
theorem H4{s:ByteArray}(h:0 < s.size):G3 s.data.toList=(decide (s.size<=32)&&CO (s[0])&&s.data.toList.all Fz):=by
 obtain ⟨⟨l⟩⟩:=s
 cases l with
 |nil=>simp[ByteArray.size] at h
 |cons c r=>rfl
theorem Oc{s:ByteArray}(h:¬ 0 < s.size):G3 s.data.toList=false:=by
 obtain ⟨⟨l⟩⟩:=s
 cases l with
 |nil=>rfl
 |cons c r=>simp[ByteArray.size] at h
theorem Q0{s:ByteArray}(h0:0 < s.size)(h:¬ s.size<=32):G3 s.data.toList=false:=by rw[H4 h0];simp[h]
theorem Od{s:ByteArray}(h0:0 < s.size)(h:CO s[0]=false):G3 s.data.toList=false:=by rw[H4 h0];simp[h]
theorem Q1{s:ByteArray}{k:Nat}(a:k < s.size)(h:Fz s[k]=false):G3 s.data.toList=false:=by
 rw[H4 (by omega)]
 have:s.data.toList.all Fz=false:=by
  rw[xu]
  exact ⟨s[k],by rw[Array.mem_toList_iff];exact Array.getElem_mem _,by simp[h]⟩
 rw[this];simp
theorem Sd{s:ByteArray}(h0:0 < s.size)(a:s.size<=32)(h:CO s[0]=true)(b:(s.data.toList.take s.size).all Fz=true):G3 s.data.toList=true:=by
 rw[qc (by simp)] at b
 rw[H4 h0,b,h];simp[a]
theorem Ts{s:ByteArray}{k:Nat}(b:k < s.size)(a:(s.data.toList.take k).all Fz=true)(h:Fz s[k]=true):(s.data.toList.take (k+1)).all Fz=true:=by
 rw[Sc s k b,xv,a];simp[h]
theorem Tt(P:UInt8->Bool)(h:(List.range 256).all (fun n=>P n.toUInt8)=true)(c:UInt8):P c=true:=by
 have:=yW.1 h c.toNat (by rw[zj];exact c.toNat_lt)
 simpa using this
theorem Rl(c:UInt8):(Ct c==2)=CO c:=by
 have:=Tt (fun c=>(Ct c==2)==CO c) (by decide+kernel) c
 simpa using this
theorem Ku(c:UInt8):(Ct c==2||Ct c==3||Ct c==5)=Fz c:=by
 have:=Tt (fun c=>(Ct c==2||Ct c==3||Ct c==5)==Fz c) (by decide+kernel) c
 simpa using this
theorem Se{s:ByteArray}(h:0 < s.size):s.toList.isEmpty=false:=by
 rw[xy,List.isEmpty_eq_false_iff];intro e;have:=FT s;rw[e] at this;simp at this;omega
theorem Tu{s:ByteArray}(h:¬ 0 < s.size):s.toList.isEmpty=true:=by
 rw[xy,List.isEmpty_iff,<-zv,FT];omega
theorem Tv(c:UInt8)(n:Int)(h:Ct c=n)(w:World):
  Calls Tryz.prog 99 #[.int .u8 (c.toNat:Int)] w fun e w'=>e=.returned (.int .i64 n)∧w=w':=by
 rw[<-h];exact Hy c w
theorem Sf{c:UInt8}(h:CO c=true):Ct c=2:=by
 have:=Rl c
 rw[h] at this
 simpa using this
theorem KK(c:UInt8)(h:CO c=false)(w:World):
  Calls Tryz.prog 99 #[.int .u8 (c.toNat:Int)] w fun e w'=>∃n:Int,(n !=2)=true∧e=.returned (.int .i64 n)∧w=w':=
 (Hy c w).mono fun _ _ a=>⟨_,by have:=Rl c;rw[h] at this;simpa using this,a⟩
theorem Q2(c:UInt8)(h:Fz c=true)(w:World):
  Calls Tryz.prog 99 #[.int .u8 (c.toNat:Int)] w fun e w'=>∃n:Int,(n=2∨n=3∨n=5)∧e=.returned (.int .i64 n)∧w=w':=
 (Hy c w).mono fun _ _ a=>⟨_,by have:=Ku c;rw[h] at this;simpa[or_assoc] using this,a⟩
theorem Nj(c:UInt8)(h:Fz c=false)(w:World):
  Calls Tryz.prog 99 #[.int .u8 (c.toNat:Int)] w fun e w'=>∃n:Int,(n !=2)=true∧(n !=3)=true∧(n !=5)=true∧e=.returned (.int .i64 n)∧w=w':=
 (Hy c w).mono fun _ _ a=>⟨_,by have:=Ku c;rw[h] at this;simp at this;simp[this],by have:=Ku c;rw[h] at this;simp at this;simp[this],by have:=Ku c;rw[h] at this;simp at this;simp[this],a⟩
theorem Tw(s:ByteArray)(w:World)(hs:s.size<=maxLen):
  Calls Tryz.prog 80 #[.string s] w fun e w'=>e=.returned (.bool (G3 s.data.toList))∧w=w':=by
 unfold maxLen at hs
 generalize hN:G3 s.data.toList=N
 have a:=yb hN;clear hN
 by_cases h0:0 < s.size
 ·have j:=Se h0
  by_cases b:s.size<=32
  ·have l:decide (32 < (s.size:Int))=false:=by simp;omega
   by_cases h:CO s[0]=true
   ·have f:=yb h;clear h
    go_enter Tryz.func80,Tryz.ntmps80
    go_wp2_with (first|(go_at_call 99;refine (Tv _ 2 (Sf f.o) _).mono ?_;rintro e w' ⟨rfl,rfl⟩))
    go_loop [3,4,20] (fun _ _ i=>∃k:Nat,k<=s.size∧i=iV k∧(s.data.toList.take k).all Fz=true) (fun _ _ i=>s.size - (intOf i).toNat)
    case atStart=>exact ⟨0,by omega,rfl,rfl⟩
    case round=>
     obtain ⟨k,q,rfl,m⟩:=hrel
     have n:=yb m;clear m
     by_cases c:k < s.size
     ·by_cases g:Fz s[k]=true
      ·have d:=yb g;clear g
       go_wp2_with (first|(go_at_call 99;refine (Q2 _ d.o _).mono ?_;rintro e w' ⟨n1,(rfl|rfl|rfl),rfl,rfl⟩))
       all_goals exact ⟨⟨k+1,by omega,by go_num,Ts c n.o d.o⟩,by simp[intOf];omega⟩
      ·have d:=yb (ym.2 g);clear g
       go_wp2_with (first|(go_at_call 99;refine (Nj _ d.o _).mono ?_;rintro e w' ⟨n1,c2,c3,c5,rfl,rfl⟩))
       go_ret
       exact ⟨AK (by rw[<-a.o,Q1 c d.o]),rfl⟩
     ·go_wp2
      go_ret
      obtain rfl:k=s.size:=by omega
      exact ⟨AK (by rw[<-a.o,Sd h0 b f.o n.o]),rfl⟩
   ·have f:=yb (ym.2 h);clear h
    go_enter Tryz.func80,Tryz.ntmps80
    go_wp2_with (first|(go_at_call 99;refine (KK _ f.o _).mono ?_;rintro e w' ⟨n0,p,rfl,rfl⟩))
    go_ret
    exact ⟨AK (by rw[<-a.o,Od h0 f.o]),rfl⟩
  ·go_enter Tryz.func80,Tryz.ntmps80
   go_wp2_with fail
   go_ret
   exact ⟨AK (by rw[<-a.o,Q0 h0 b]),rfl⟩
 ·have j:=Tu h0
  go_enter Tryz.func80,Tryz.ntmps80
  go_wp2_with fail
  go_ret
  exact ⟨AK (by rw[<-a.o,Oc h0]),rfl⟩
end Go.Proofs.YtjofgpfocadomaaGreatDoor
namespace Go.Proofs.YtjofgpfocadomaaGreatDoor
open Go.RowKit
attribute [local go_sem] Oper.semAt_some
def Kv(J:Nat->NP->World->Prop)(Jx:NP->World->Prop)(Jp:List PanicEntry->NP->World->Prop)(O:NP)(k:Nat)(W:World)(e:Ending)(W':World):Prop:=
 (e=.returned (.bool true)∧J k O W'∧AN O W W')∨(e=.returned (.bool false)∧Jx O W'∧AN O W W')∨∃a,e=.panicked a∧Jp a O W'∧AN O W W'
theorem D6{O:NP}{W W':World}(h:AN O W W'){b o:Nat}(hb:O b){v:Value}(a:W.cell? ⟨b,o,none⟩=some v):W'.cell? ⟨b,o,none⟩=some v:=by
 unfold World.cell? at a ⊢
 rw[h.2 b hb];exact a
theorem V9(n:Nat)(R:1<=n)(l Bc g:Nat)(lt:Int)(ps:LV)(f:Nat)(O:NP)(J:Nat->NP->World->Prop)(Jx:NP->World->Prop)(Jp:List PanicEntry->NP->World->Prop)(W:World)
 (z:O Bc)(B:O g)(v:ps.length<=100)(C:W.cell? ⟨Bc,0,none⟩=some (.func (.yield l) #[] #[]))(hcs:∀i (h:i < ps.length),W.cell? ⟨g,i,none⟩=some ps[i])(a:∀i (h:i < ps.length),∃p,ps[i]=.pointer (some p))
 (w:∀i (h:i < ps.length) W1,J (f+i) O W1->AN O W W1->YieldAt Fence.wide (n - 1) Tryz.prog l #[ps[i],.int .i64 lt] W1 (Kv J Jx Jp O (f+i+1) W1))
 (h0:J f O W):
  CallsIn Fence.wide n Tryz.prog 93 #[.int .i64 lt,.slice (some ⟨g,0,none⟩) ps.length ps.length,.pointer (some ⟨Bc,0,none⟩)] W (Kv J Jx Jp O (f+ps.length) W):=by
 have K:=yb C
 have r:=yb hcs
 have L:=yb w
 have M:=yb h0
 have E:=yb z
 have m:=yb B
 have j:=yb a
 generalize hN:ps.length=N at v ⊢
 have G:=yb hN
 clear C hcs w h0 hN z B a
 refine callsIn_of_wp Tryz.func93 rfl trivial ?_ rfl
 simp only[Tryz.ntmps93,yM,yz,yH,Nat.reduceAdd,Nat.reduceSub,zD,zE,zR,zK,yQ,yK]
 gi_wp2
 gi_loopw [10] (fun t wr=>∃i:Nat,i<=N∧t=iV i∧Hid (J (f+i) O wr)∧Hid (AN O W wr)) (fun t _=>N - (intOf t).toNat)
 case atStart=>exact ⟨0,yI _,rfl,M,yb (AN.refl _ _)⟩
 case round=>
  obtain ⟨i,hi,rfl,x,b⟩:=hrel
  by_cases q:i < N
  ·have c:i < ps.length:=by rw[G.o];exact q
   have c0:=D6 b.o E.o K.o
   have c1:=D6 b.o m.o (r.o i c)
   obtain ⟨p,k⟩:=j.o i c
   obtain ⟨fn,tmps,assign,body,I,y⟩:=L.o i c wr x.o b.o
   rw[k] at c1 I
   have H:=yb y
   have F:(i:Int) < (N:Int):=by omega
   clear y k
   gi_wp2
   refine H.o.mono ?_
   rintro e Q (⟨rfl,D,hs⟩|⟨rfl,A,hs⟩|⟨P,rfl,k,hs⟩)
   ·have s:=yb D
    have d:=yb (b.o.trans hs)
    clear D hs
    gi_wp2
    exact ⟨⟨i+1,by omega,by go_num,s,d⟩,by simp[intOf];omega⟩
   ·have u:=yb A
    have d:=yb (b.o.trans hs)
    clear A hs
    gi_wp2
    go_ret
    exact .inr (.inl ⟨rfl,u.o,d.o⟩)
   ·exact ⟨rfl,.inr (.inr ⟨P,rfl,k,b.o.trans hs⟩)⟩
  ·obtain rfl:i=N:=by omega
   gi_wp2
   go_ret
   exact .inl ⟨rfl,x.o,b.o⟩
end Go.Proofs.YtjofgpfocadomaaGreatDoor
namespace Go.Proofs.YtjofgpfocadomaaGreatDoor
open Go.RowKit
structure Aw where
 a:Option Addr
 n:Nat
 c:Nat
def Aw.v(h:Aw):Value:=.slice h.a h.n h.c
def Aw.at(h:Aw)(sz i c:Nat):Addr:=match h.a with
 |some ⟨b,o,_⟩=>⟨b,o+i*sz+c,none⟩
 |none=>⟨0,0,none⟩
def Aw.ptr(h:Aw)(sz i a:Nat):Value:=.pointer (some (h.at sz i a))
def Aw.ok(h:Aw):Prop:=h.n<=140737488355328∧(0 < h.n->∃b o,h.a=some ⟨b,o,none⟩)
theorem Aw.ok.get{h:Aw}(e:h.ok){i:Nat}(hi:i < h.n):∃b o,h.a=some ⟨b,o,none⟩∧∀sz i c,h.at sz i c=⟨b,o+i*sz+c,none⟩:=by
 obtain ⟨b,o,d⟩:=e.2 (by omega)
 exact ⟨b,o,d,fun sz i c=>by unfold Aw.at;rw[d]⟩
structure Bt where
 s:Nat
 lets:Aw
 crops:Aw
 reaches:Aw
 farms:Aw
 rots:Aw
 rights:Aw
 duties:Aw
 turns:List Aw
def one(p:Value)(lt:Int):List (Array Value):=[#[p,.int .i64 lt]]
def An(ps:LV):List (Array Value):=ps.map fun p=>#[p,.int .i64 0]
def Ai(s:Nat):LV:=[.pointer (some ⟨s,1,none⟩),.pointer (some ⟨s,7,none⟩),.pointer (some ⟨s,13,none⟩)]
def Kw(h:Aw)(i:Nat):LV:=[h.ptr 51 i 3,h.ptr 51 i 9,h.ptr 51 i 15,h.ptr 51 i 21,h.ptr 51 i 27,h.ptr 51 i 33,h.ptr 51 i 39,h.ptr 51 i 45]
def Ee(h:Aw)(i:Nat):LV:=[h.ptr 23 i 4,h.ptr 23 i 10,h.ptr 23 i 16]
def Kx(h:Aw)(i:Nat):LV:=[h.ptr 37 i 7,h.ptr 37 i 13,h.ptr 37 i 19,h.ptr 37 i 25,h.ptr 37 i 31]
def A2(L:Bt)(i:Nat):Aw:=L.turns.getD i ⟨none,0,0⟩
def Ao(L:Bt)(n:Nat):List (Array Value):=(List.range n).flatMap fun i=> [#[L.lets.ptr 7 i 1,.int .i64 (1+(i:Int))]]
def Aj(L:Bt)(n:Nat):List (Array Value):=(List.range n).flatMap fun i=>An [L.crops.ptr 7 i 1]
def Aa(L:Bt)(n:Nat):List (Array Value):=(List.range n).flatMap fun i=>An (Kw L.reaches i)
def Aq(L:Bt)(n:Nat):List (Array Value):=(List.range n).flatMap fun i=>An [L.farms.ptr 12 i 4]
def BI(h:Aw)(n:Nat):List (Array Value):=(List.range n).flatMap fun k=>An [h.ptr 8 k 2]
def AV(L:Bt)(n:Nat):List (Array Value):=(List.range n).flatMap fun i=>An (Ee L.rots i)++BI (A2 L i) (A2 L i).n
def AJ(L:Bt)(n:Nat):List (Array Value):=(List.range n).flatMap fun i=>An (Kx L.rights i)
def Bm(L:Bt)(n:Nat):List (Array Value):=(List.range n).flatMap fun i=>An [L.duties.ptr 11 i 5]
def BK(L:Bt):List (Array Value):=
 An (Ai L.s)++(Ao L L.lets.n++(Aj L L.crops.n++(Aa L L.reaches.n++(Aq L L.farms.n++(AV L L.rots.n++(AJ L L.rights.n++Bm L L.duties.n))))))
structure IS (L:Bt) (Bs:Nat) (W:World):Prop where
 box:W.cell? ⟨Bs,0,none⟩=some (.pointer (some ⟨L.s,0,none⟩))
 lets:W.cell? ⟨L.s,19,none⟩=some L.lets.v
 crops:W.cell? ⟨L.s,20,none⟩=some L.crops.v
 reaches:W.cell? ⟨L.s,21,none⟩=some L.reaches.v
 farms:W.cell? ⟨L.s,22,none⟩=some L.farms.v
 rots:W.cell? ⟨L.s,23,none⟩=some L.rots.v
 rights:W.cell? ⟨L.s,24,none⟩=some L.rights.v
 duties:W.cell? ⟨L.s,25,none⟩=some L.duties.v
 turns:∀i,i < L.rots.n->W.cell? (L.rots.at 23 i 22)=some (A2 L i).v
structure Bt.Ok (L:Bt):Prop where
 lets:L.lets.ok
 crops:L.crops.ok
 reaches:L.reaches.ok
 farms:L.farms.ok
 rots:L.rots.ok
 rights:L.rights.ok
 duties:L.duties.ok
 turns:∀i,i < L.rots.n->(A2 L i).ok
theorem BC{α:Type}(f:Nat->List α){n i:Nat}(h:i < n):∃post,(List.range n).flatMap f=(List.range i).flatMap f++(f i++post):=by
 obtain ⟨m,rfl⟩:∃m,n=(i+1)+m:=⟨n - (i+1),by omega⟩
 rw[List.range_add,zo,List.range_succ,zo]
 exact ⟨_,by simp[yG];rfl⟩
theorem Ak{α:Type}(f:Nat->List α)(i:Nat):(List.range (i+1)).flatMap f=(List.range i).flatMap f++f i:=by
 rw[List.range_succ,zo];simp
structure Xo (n l:Nat) (P:Program) (xs:List (Array Value)) (Hd:World->Prop) (J:Nat->(Nat->Prop)->World->Prop) (Jx:(Nat->Prop)->World->Prop) (Jp:List PanicEntry->(Nat->Prop)->World->Prop) (W0:World):Prop where
 stays:Cd J
 staysx:Cd (fun (_:Unit)=>Jx)
 hd:∀k O W,J k O W->Hd W
 hdx:∀O W,Jx O W->Hd W
 round:∀k (hk:k < xs.length) O W1,J k O W1->W0.heap.size<=W1.heap.size->(∀b,O b->W0.heap.size<=b∧b < W1.heap.size)->YieldAt Fence.wide n P l xs[k] W1 (Kv J Jx Jp O (k+1) W1)
structure Ik (J:Nat->(Nat->Prop)->World->Prop) (W0:World) (l Bc k:Nat) (O:Nat->Prop) (wr:World):Prop where
 j:J k O wr
 bc:O Bc
 box:wr.cell? ⟨Bc,0,none⟩=some (.func (.yield l) #[] #[])
 size:W0.heap.size<=wr.heap.size
 own:∀b,O b->W0.heap.size<=b∧b < wr.heap.size
section
variable{n l Bc k:Nat}{P:Program}{xs:List (Array Value)}{Hd:World->Prop}{J:Nat->NP->World->Prop}{Jx:NP->World->Prop}{Jp:List PanicEntry->NP->World->Prop}{W0 wr w2:World}{O:NP}
theorem CL{β:Type}{J:β->NP->World->Prop}(h:Cd J){s:β}{O:NP}{W W':World}(d:J s O W)(hb:Below W.heap.size W W'):J s (fun b=>O b∨(W.heap.size<=b∧b < W'.heap.size)) W':=
 h s O W _ W' d hb.size hb.os hb.tape hb.output (fun b _ c=>hb.block b c) (fun _ a=>a.elim .inl (fun h=>.inr h.1))
theorem Ik.below(c:Xo n l P xs Hd J Jx Jp W0)(h:Ik J W0 l Bc k O wr)(hb:Below wr.heap.size wr w2):Ik J W0 l Bc k (fun b=>O b∨(wr.heap.size<=b∧b < w2.heap.size)) w2:=
 ⟨CL c.stays h.j hb,.inl h.bc,(hb.cell (p:=⟨Bc,0,none⟩) (h.own _ h.bc).2).trans h.box,yu h.size hb.size,fun b a=>by
  rcases a with a|a
  ·have:=h.own b a;have:=hb.size;omega
  ·have:=h.size;omega⟩
def Xt(J:Nat->NP->World->Prop)(Jx:NP->World->Prop)(Jp:List PanicEntry->NP->World->Prop)(W0:World)(l Bc k:Nat)(e:Ending)(W':World):Prop:=
 (∃r:Bool,e=.returned (.bool r)∧((r=true∧∃a,Ik J W0 l Bc k a W')∨(r=false∧∃a,Jx a W')))∨∃b,e=.panicked b∧∃a,Jp b a W'
theorem Dp(r:Xo (n - 1) l Tryz.prog xs Hd J Jx Jp W0)(y:1<=n){pre:List (Array Value)}(h:Ik J W0 l Bc pre.length O wr)(lt:Int)(a:Array Value)(N:Nat)(hN:a.size=N)(t:TypeId)(f:∃post,xs=pre++(a.toList.map (fun p=>#[p,.int .i64 lt])++post))(o:N<=100)(d:∀p∈a.toList,∃q,p=.pointer (some q))(g:Nat)(x:g=wr.heap.size):
  Calls Tryz.prog 93 #[.int .i64 lt,.slice (some ⟨g,0,none⟩) N N,.pointer (some ⟨Bc,0,none⟩)] (wr.alloc (.cells a t)) (Xt J Jx Jp W0 l Bc (pre.length+N)):=by
 subst hN x
 have hb:Below wr.heap.size wr (wr.alloc (.cells a t)):=(yg _ _).alloc (yf _) _
 have h2:=h.below r hb
 have c:a.toList.length=a.size:=by simp
 refine yY.1 ((V9 n y l Bc wr.heap.size lt a.toList pre.length _ J Jx Jp _ h2.bc (.inr ⟨yf _,by simp⟩) (by rw[c];exact o) h2.box (fun i hi=>?_) (fun i hi=>d _ (yJ hi)) (fun i hi s k hs=>?_) h2.j).mono ?_)
 ·have:(wr.alloc (.cells a t)).heap[wr.heap.size]?=some (.cells a t (0,0)):=World.alloc_heap_new _ _
  simp only[World.cell?,this]
  simp[c▸hi]
 ·obtain ⟨post,f⟩:=f
  have v:pre.length+i < xs.length:=by rw[f];simp;simp at hi;omega
  have w:xs[pre.length+i]=#[a.toList[i],iV lt]:=by
   subst f
   rw[xF (by omega)]
   simp only[xt]
   rw[xG (by simpa using hi),zH]
  have:=r.round (pre.length+i) v _ s k (yu h2.size hs.1) (fun b hb=>by have:=h2.own b hb;have:=hs.1;omega)
  rw[w] at this
  exact this
 ·rintro e W' (⟨rfl,k,hs⟩|⟨rfl,m,hs⟩|⟨z,rfl,u,_⟩)
  ·rw[c] at k
   exact .inl ⟨true,rfl,.inl ⟨rfl,_,k,h2.bc,D6 hs h2.bc h2.box,yu h2.size hs.1,fun b hb=>by have:=h2.own b hb;have:=hs.1;omega⟩⟩
  ·exact .inl ⟨false,rfl,.inr ⟨rfl,_,m⟩⟩
  ·exact .inr ⟨z,rfl,_,u⟩
end
structure Rf where
 name:ByteArray
 n:Int
structure F9 where
 name:ByteArray
 value:Ex
structure DO where
 name:ByteArray
 need:Ex
structure AE where
 name:ByteArray
 frm:Rf
 delay:Ex
 cap:Ex
 bank:Ex
 siphon:Ex
 evap0:Ex
 evap1:Ex
 seep0:Ex
 seep1:Ex
structure CY where
 name:ByteArray
 on:Rf
 river:Bool
 area:Ex
 crop:Rf
structure Cs where
 farm:Rf
 len:Ex
structure BG where
 name:ByteArray
 on:Rf
 rank:Int
 flow:Ex
 frm:Ex
 to:Ex
 turns:List Cs
structure AZ where
 kind:Int
 name:ByteArray
 farm:Rf
 reach:Rf
 rank:Int
 flow:Ex
 frm:Ex
 to:Ex
 every:Ex
 len:Ex
structure D9 where
 name:ByteArray
 farm:Rf
 reach:Rf
 due:Ex
structure Ar where
 name:ByteArray
 season:Ex
 cap:Ex
 start:Ex
 lets:List F9
 crops:List DO
 reaches:List AE
 farms:List CY
 rots:List BG
 rights:List AZ
 duties:List D9
def BF{α:Type}(N:NP)(w:World)(sz:Nat)(P:LV->α->Prop)(h:Aw)(l:List α):Prop:=
 h.n=l.length∧l.length<=140737488355328∧∀i (hi:i < l.length),∃b o cs,h.a=some ⟨b,o,none⟩∧N b∧cs.length=sz∧w.rangeAt b (o+i*sz) cs∧P cs l[i]
def AU(r:Rf):LV:=[.string r.name,.int .i64 r.n]
section
variable(N:NP)(w:World)
def H7(cs:LV)(d:F9):Prop:=d.name.size<=maxLen∧∃c,cs=.string d.name::c∧AI N w d.value c
def Il(cs:LV)(d:DO):Prop:=d.name.size<=maxLen∧∃c,cs=.string d.name::c∧AI N w d.need c
def Fa(cs:LV)(d:AE):Prop:=d.name.size<=maxLen∧d.frm.name.size<=maxLen∧∃c0 c1 c2 c3 c4 c5 c6 c7,cs=.string d.name::(AU d.frm++(c0++(c1++(c2++(c3++(c4++(c5++(c6++c7))))))))∧
 AI N w d.delay c0∧AI N w d.cap c1∧AI N w d.bank c2∧AI N w d.siphon c3∧AI N w d.evap0 c4∧AI N w d.evap1 c5∧AI N w d.seep0 c6∧AI N w d.seep1 c7
def Im(cs:LV)(d:CY):Prop:=d.name.size<=maxLen∧d.on.name.size<=maxLen∧d.crop.name.size<=maxLen∧∃c,cs=.string d.name::(AU d.on++(.bool d.river::(c++AU d.crop)))∧AI N w d.area c
def FA(cs:LV)(d:Cs):Prop:=d.farm.name.size<=maxLen∧∃c,cs=AU d.farm++c∧AI N w d.len c
def H8(h:Aw)(cs:LV)(d:BG):Prop:=d.name.size<=maxLen∧d.on.name.size<=maxLen∧∃c0 c1 c2,cs=.string d.name::(AU d.on++(.int .i64 d.rank::(c0++(c1++(c2++[h.v])))))∧
 AI N w d.flow c0∧AI N w d.frm c1∧AI N w d.to c2∧BF N w 8 (FA N w) h d.turns
def Fb(cs:LV)(d:AZ):Prop:=d.name.size<=maxLen∧d.farm.name.size<=maxLen∧d.reach.name.size<=maxLen∧∃c0 c1 c2 c3 c4,cs=.int .i64 d.kind::.string d.name::(AU d.farm++(AU d.reach++(.int .i64 d.rank::(c0++(c1++(c2++(c3++c4)))))))∧
 AI N w d.flow c0∧AI N w d.frm c1∧AI N w d.to c2∧AI N w d.every c3∧AI N w d.len c4
def Io(cs:LV)(d:D9):Prop:=d.name.size<=maxLen∧d.farm.name.size<=maxLen∧d.reach.name.size<=maxLen∧∃c,cs=.string d.name::(AU d.farm++(AU d.reach++c))∧AI N w d.due c
structure BH (L:Bt) (cs:List Value) (x:Ar):Prop where
 name:x.name.size<=maxLen
 cells:∃c0 c1 c2,cs=.string x.name::(c0++(c1++(c2++[L.lets.v,L.crops.v,L.reaches.v,L.farms.v,L.rots.v,L.rights.v,L.duties.v])))∧AI N w x.season c0∧AI N w x.cap c1∧AI N w x.start c2
 lets:BF N w 7 (H7 N w) L.lets x.lets
 crops:BF N w 7 (Il N w) L.crops x.crops
 reaches:BF N w 51 (Fa N w) L.reaches x.reaches
 farms:BF N w 12 (Im N w) L.farms x.farms
 rots:L.rots.n=x.rots.length∧x.rots.length<=140737488355328∧∀i (hi:i < x.rots.length),∃b o cs,L.rots.a=some ⟨b,o,none⟩∧N b∧cs.length=23∧w.rangeAt b (o+i*23) cs∧H8 N w (A2 L i) cs x.rots[i]
 rights:BF N w 37 (Fb N w) L.rights x.rights
 duties:BF N w 11 (Io N w) L.duties x.duties
end
section
variable{N N':NP}{w w':World}
theorem BF.same{α:Type}{sz:Nat}{P c:LV->α->Prop}{h:Aw}{l:List α}(k:∀b,N b->N' b)(hb:∀b,N b->w'.heap[b]?=w.heap[b]?)(e:∀cs d,P cs d->c cs d)(hr:BF N w sz P h l):BF N' w' sz c h l:=by
 obtain ⟨h1,h2,h3⟩:=hr
 refine ⟨h1,h2,fun i hi=>?_⟩
 obtain ⟨b,o,cs,g1,a,j,g,f⟩:=h3 i hi
 exact ⟨b,o,cs,g1,k b a,j,A0 g (hb b a),e _ _ f⟩
theorem BF.ok{α:Type}{sz:Nat}{P:LV->α->Prop}{h:Aw}{l:List α}(hr:BF N w sz P h l):h.ok:=by
 obtain ⟨h1,h2,h3⟩:=hr
 refine ⟨by omega,fun a=>?_⟩
 obtain ⟨b,o,_,g1,_⟩:=h3 0 (by omega)
 exact ⟨b,o,g1⟩
theorem H7.same(a:∀b,N b->N' b)(hb:∀b,N b->w'.heap[b]?=w.heap[b]?){cs:LV}{d:F9}(h:H7 N w cs d):H7 N' w' cs d:=by
 obtain ⟨h1,c,h2,h3⟩:=h
 exact ⟨h1,c,h2,h3.same a hb⟩
theorem Il.same(a:∀b,N b->N' b)(hb:∀b,N b->w'.heap[b]?=w.heap[b]?){cs:LV}{d:DO}(h:Il N w cs d):Il N' w' cs d:=by
 obtain ⟨h1,c,h2,h3⟩:=h
 exact ⟨h1,c,h2,h3.same a hb⟩
theorem Fa.same(a:∀b,N b->N' b)(hb:∀b,N b->w'.heap[b]?=w.heap[b]?){cs:LV}{d:AE}(h:Fa N w cs d):Fa N' w' cs d:=by
 obtain ⟨h1,h2,c0,c1,c2,c3,c4,c5,c6,c7,h3,k,g1,j,g,f,e,c,i⟩:=h
 exact ⟨h1,h2,c0,c1,c2,c3,c4,c5,c6,c7,h3,k.same a hb,g1.same a hb,j.same a hb,g.same a hb,f.same a hb,e.same a hb,c.same a hb,i.same a hb⟩
theorem Im.same(a:∀b,N b->N' b)(hb:∀b,N b->w'.heap[b]?=w.heap[b]?){cs:LV}{d:CY}(h:Im N w cs d):Im N' w' cs d:=by
 obtain ⟨h1,h2,h3,c,e,g⟩:=h
 exact ⟨h1,h2,h3,c,e,g.same a hb⟩
theorem FA.same(a:∀b,N b->N' b)(hb:∀b,N b->w'.heap[b]?=w.heap[b]?){cs:LV}{d:Cs}(h:FA N w cs d):FA N' w' cs d:=by
 obtain ⟨h1,c,h2,g⟩:=h
 exact ⟨h1,c,h2,g.same a hb⟩
theorem H8.same(a:∀b,N b->N' b)(hb:∀b,N b->w'.heap[b]?=w.heap[b]?){t:Aw}{cs:LV}{d:BG}(h:H8 N w t cs d):H8 N' w' t cs d:=by
 obtain ⟨h1,h2,c0,c1,c2,h3,c,g1,f,e⟩:=h
 exact ⟨h1,h2,c0,c1,c2,h3,c.same a hb,g1.same a hb,f.same a hb,e.same a hb (fun _ _ h=>h.same a hb)⟩
theorem Fb.same(a:∀b,N b->N' b)(hb:∀b,N b->w'.heap[b]?=w.heap[b]?){cs:LV}{d:AZ}(h:Fb N w cs d):Fb N' w' cs d:=by
 obtain ⟨h1,h2,h3,c0,c1,c2,c3,c4,g,i,g1,f,e,c⟩:=h
 exact ⟨h1,h2,h3,c0,c1,c2,c3,c4,g,i.same a hb,g1.same a hb,f.same a hb,e.same a hb,c.same a hb⟩
theorem Io.same(a:∀b,N b->N' b)(hb:∀b,N b->w'.heap[b]?=w.heap[b]?){cs:LV}{d:D9}(h:Io N w cs d):Io N' w' cs d:=by
 obtain ⟨h1,h2,h3,c,e,g⟩:=h
 exact ⟨h1,h2,h3,c,e,g.same a hb⟩
theorem BH.same(a:∀b,N b->N' b)(hb:∀b,N b->w'.heap[b]?=w.heap[b]?){L:Bt}{cs:LV}{x:Ar}(h:BH N w L cs x):BH N' w' L cs x:=by
 refine ⟨h.name,?_,h.lets.same a hb (fun _ _ h=>h.same a hb),h.crops.same a hb (fun _ _ h=>h.same a hb),h.reaches.same a hb (fun _ _ h=>h.same a hb),h.farms.same a hb (fun _ _ h=>h.same a hb),?_,h.rights.same a hb (fun _ _ h=>h.same a hb),h.duties.same a hb (fun _ _ h=>h.same a hb)⟩
 ·obtain ⟨c0,c1,c2,h1,g,g1,c⟩:=h.cells
  exact ⟨c0,c1,c2,h1,g.same a hb,g1.same a hb,c.same a hb⟩
 ·obtain ⟨h1,h2,h3⟩:=h.rots
  refine ⟨h1,h2,fun i hi=>?_⟩
  obtain ⟨b,o,cs,g1,c,f,e,d⟩:=h3 i hi
  exact ⟨b,o,cs,g1,a b c,f,A0 e (hb b c),d.same a hb⟩
theorem BH.ok{L:Bt}{cs:LV}{x:Ar}(h:BH N w L cs x):L.Ok:=by
 obtain ⟨h1,h2,h3⟩:=h.rots
 refine ⟨h.lets.ok,h.crops.ok,h.reaches.ok,h.farms.ok,⟨by omega,fun a=>?_⟩,h.rights.ok,h.duties.ok,fun i hi=>?_⟩
 ·obtain ⟨b,o,_,g1,_⟩:=h3 0 (by omega)
  exact ⟨b,o,g1⟩
 ·obtain ⟨_,_,_,_,_,_,_,g⟩:=h3 i (by omega)
  obtain ⟨_,_,_,_,_,_,_,_,_,g⟩:=g
  exact g.ok
end
def AD{α β:Type}(R:α->β->Prop):List α->List β->Prop
 |[],[]=>True
 |a::l,b::m=>R a b∧AD R l m
 |_,_=>False
section
variable{α β:Type}{R:α->β->Prop}
theorem AD.append:∀ {l:List α} {m:List β} {l':List α} {a:List β},AD R l m->AD R l' a->AD R (l++l') (m++a)
 |[],[],_,_,_,h=>h
 |_::_,_::_,_,_,h,h'=>⟨h.1,h.2.append h'⟩
 |[],_::_,_,_,h,_=>h.elim
 |_::_,[],_,_,h,_=>h.elim
theorem AD.length:∀ {l:List α} {m:List β},AD R l m->l.length=m.length
 |[],[],_=>rfl
 |_::_,_::_,h=>by simp[h.2.length]
 |[],_::_,h=>h.elim
 |_::_,[],h=>h.elim
theorem AD.get:∀ {l:List α} {m:List β},AD R l m->∀i (h:i < l.length) (a:i < m.length),R l[i] m[i]
 |[],_,_,i,h,_=>by simp at h
 |_::_,_::_,h,0,_,_=>h.1
 |_::_,_::_,h,i+1,h1,h2=>h.2.get i (by simpa using h1) (by simpa using h2)
 |_::_,[],h,_,_,_=>h.elim
theorem AD.mono{R':α->β->Prop}(hr:∀a b,R a b->R' a b):∀ {l:List α} {m:List β},AD R l m->AD R' l m
 |[],[],h=>h
 |_::_,_::_,h=>⟨hr _ _ h.1,h.2.mono hr⟩
 |[],_::_,h=>h.elim
 |_::_,[],h=>h.elim
theorem Mv{γ:Type}(f:Nat->List α)(g:Nat->γ->List β):∀(l:List γ) (k:Nat),(∀i (h:i < l.length),AD R (f (k+i)) (g (k+i) l[i]))->AD R ((List.range' k l.length).flatMap f) ((l.zipIdx k).flatMap fun p=>g p.2 p.1)
 |[],_,_=>by simp[AD]
 |x::r,k,h=>by
  rw[yz,List.range'_succ,zh,xV,zh]
  refine (h 0 (by simp)).append (Mv f g r (k+1) fun i hi=>?_)
  have:=h (i+1) (by simpa using hi)
  rw[show k+1+i=k+(i+1) by omega]
  simpa using this
theorem B6{γ:Type}(f:Nat->List α)(g:Nat->γ->List β)(l:List γ)(n:Nat)(a:n=l.length)(h:∀i (h:i < l.length),AD R (f i) (g i l[i])):AD R ((List.range n).flatMap f) (l.zipIdx.flatMap fun p=>g p.2 p.1):=by
 subst a
 rw[List.range_eq_range']
 exact Mv f g l 0 (fun i hi=>by rw[yy];exact h i hi)
end
abbrev Kc:=Ex × Int
def Ff(l:List F9):List Kc:=l.zipIdx.flatMap fun p=> [(p.1.value,1+(p.2:Int))]
def H9(l:List DO):List Kc:=l.zipIdx.flatMap fun p=> [(p.1.need,0)]
def EH(l:List AE):List Kc:=l.zipIdx.flatMap fun p=> [(p.1.delay,0),(p.1.cap,0),(p.1.bank,0),(p.1.siphon,0),(p.1.evap0,0),(p.1.evap1,0),(p.1.seep0,0),(p.1.seep1,0)]
def Ha(l:List CY):List Kc:=l.zipIdx.flatMap fun p=> [(p.1.area,0)]
def Ek(l:List Cs):List Kc:=l.zipIdx.flatMap fun p=> [(p.1.len,0)]
def IT(l:List BG):List Kc:=l.zipIdx.flatMap fun p=> [(p.1.flow,0),(p.1.frm,0),(p.1.to,0)]++Ek p.1.turns
def FB(l:List AZ):List Kc:=l.zipIdx.flatMap fun p=> [(p.1.flow,0),(p.1.frm,0),(p.1.to,0),(p.1.every,0),(p.1.len,0)]
def FC(l:List D9):List Kc:=l.zipIdx.flatMap fun p=> [(p.1.due,0)]
def As(x:Ar):List Kc:=
 [(x.season,0),(x.cap,0),(x.start,0)]++(Ff x.lets++(H9 x.crops++(EH x.reaches++(Ha x.farms++(IT x.rots++(FB x.rights++FC x.duties))))))
def Xu(N:NP)(s:Nat)(w:World)(a:Array Value)(e:Kc):Prop:=
 ∃b o cs,a=#[.pointer (some ⟨b,o,none⟩),.int .i64 e.2]∧(b=s∨N b)∧w.rangeAt b o cs∧AI N w e.1 cs
theorem D7{w:World}{b o:Nat}{p c q:LV}(h:w.rangeAt b o (p++(c++q))):w.rangeAt b (o+p.length) c:=fun j v a=>by
 have d:=(yx.1 a).1
 have:=h (p.length+j) v (by rw[yN (by omega),xt,zk d];exact a)
 rw[show o+p.length+j=o+(p.length+j) by omega];exact this
theorem AI.len{N:NP}{w:World}{e:Ex}{c:LV}(h:AI N w e c):c.length=6:=by
 obtain ⟨a,cap,rfl,_⟩:=h.cells;rfl
theorem CD{N:NP}{s:Nat}{w:World}{h:Aw}{b o sz i a:Nat}{p c q:LV}{e:Ex}(lt:Int)(d:∀sz i a,h.at sz i a=⟨b,o+i*sz+a,none⟩)(hb:b=s∨N b){cs:LV}(hr:w.rangeAt b (o+i*sz) cs)(j:cs=p++(c++q))(f:p.length=a)(g:AI N w e c):
  Xu N s w #[h.ptr sz i a,.int .i64 lt] (e,lt):=by
 subst j
 refine ⟨b,o+i*sz+a,c,?_,hb,?_,g⟩
 ·unfold Aw.ptr;rw[d]
 ·have:=D7 hr
  rw[f] at this;exact this
theorem AQ{h:Aw}{b o:Nat}(d:h.a=some ⟨b,o,none⟩):∀sz i c,h.at sz i c=⟨b,o+i*sz+c,none⟩:=fun sz i c=>by unfold Aw.at;rw[d]
theorem Ay(r:Rf):(AU r).length=2:=rfl
section
variable{N:NP}{w:World}{L:Bt}{cs:LV}{x:Ar}
theorem IA(h:BH N w L cs x)(hr:w.rangeAt L.s 0 cs):AD (Xu N L.s w) (BK L) (As x):=by
 refine AD.append ?_ (AD.append ?_ (AD.append ?_ (AD.append ?_ (AD.append ?_ (AD.append ?_ (AD.append ?_ ?_))))))
 ·obtain ⟨c0,c1,c2,rfl,E,g1,a⟩:=h.cells
  have f:=E.len
  have g:=g1.len
  refine ⟨⟨L.s,1,c0,rfl,.inl rfl,?_,E⟩,⟨L.s,7,c1,rfl,.inl rfl,?_,g1⟩,⟨L.s,13,c2,rfl,.inl rfl,?_,a⟩,trivial⟩
  ·exact D7 (p:=[.string x.name]) (o:=0) hr
  ·have:=D7 (p:=.string x.name::c0) (c:=c1) (q:=c2++[L.lets.v,L.crops.v,L.reaches.v,L.farms.v,L.rots.v,L.rights.v,L.duties.v]) (o:=0) (b:=L.s) (w:=w) (by simpa using hr)
   simpa[f] using this
  ·have:=D7 (p:=.string x.name::(c0++c1)) (c:=c2) (q:=[L.lets.v,L.crops.v,L.reaches.v,L.farms.v,L.rots.v,L.rights.v,L.duties.v]) (o:=0) (b:=L.s) (w:=w) (by simpa using hr)
   simpa[f,g] using this
 ·obtain ⟨h1,h2,h3⟩:=h.lets
  refine B6 _ (fun i (d:F9)=> [(d.value,1+(i:Int))]) x.lets _ h1 fun i hi=>?_
  obtain ⟨b,o,cs,g1,a,t,e,_,c,rfl,j⟩:=h3 i hi
  exact ⟨CD (p:=[.string (x.lets[i]).name]) (q:=[]) _ (AQ g1) (.inr a) e (by simp) rfl j,trivial⟩
 ·obtain ⟨h1,h2,h3⟩:=h.crops
  refine B6 _ (fun i (d:DO)=> [(d.need,0)]) x.crops _ h1 fun i hi=>?_
  obtain ⟨b,o,cs,g1,a,t,e,_,c,rfl,j⟩:=h3 i hi
  exact ⟨CD (p:=[.string (x.crops[i]).name]) (q:=[]) _ (AQ g1) (.inr a) e (by simp) rfl j,trivial⟩
 ·obtain ⟨h1,h2,h3⟩:=h.reaches
  refine B6 _ (fun i (d:AE)=> [(d.delay,0),(d.cap,0),(d.bank,0),(d.siphon,0),(d.evap0,0),(d.evap1,0),(d.seep0,0),(d.seep1,0)]) x.reaches _ h1 fun i hi=>?_
  obtain ⟨b,o,cs,g1,a,t,e,_,_,c0,c1,c2,c3,c4,c5,c6,c7,rfl,n,l,r,y,z,D,B,H⟩:=h3 i hi
  generalize x.reaches[i]=d at*
  have f:=n.len;have g:=l.len;have m:=r.len;have u:=y.len;have A:=z.len;have C:=D.len;have F:=B.len
  refine ⟨?_,?_,?_,?_,?_,?_,?_,?_,trivial⟩
  ·exact CD (p:=.string d.name::AU d.frm) _ (AQ g1) (.inr a) e (by simp;rfl) rfl n
  ·exact CD (p:=.string d.name::(AU d.frm++c0)) _ (AQ g1) (.inr a) e (by simp;rfl) (by simp[Ay,f]) l
  ·exact CD (p:=.string d.name::(AU d.frm++(c0++c1))) _ (AQ g1) (.inr a) e (by simp;rfl) (by simp[Ay,f,g]) r
  ·exact CD (p:=.string d.name::(AU d.frm++(c0++(c1++c2)))) _ (AQ g1) (.inr a) e (by simp;rfl) (by simp[Ay,f,g,m]) y
  ·exact CD (p:=.string d.name::(AU d.frm++(c0++(c1++(c2++c3))))) _ (AQ g1) (.inr a) e (by simp;rfl) (by simp[Ay,f,g,m,u]) z
  ·exact CD (p:=.string d.name::(AU d.frm++(c0++(c1++(c2++(c3++c4)))))) _ (AQ g1) (.inr a) e (by simp;rfl) (by simp[Ay,f,g,m,u,A]) D
  ·exact CD (p:=.string d.name::(AU d.frm++(c0++(c1++(c2++(c3++(c4++c5))))))) _ (AQ g1) (.inr a) e (by simp;rfl) (by simp[Ay,f,g,m,u,A,C]) B
  ·exact CD (p:=.string d.name::(AU d.frm++(c0++(c1++(c2++(c3++(c4++(c5++c6)))))))) (q:=[]) _ (AQ g1) (.inr a) e (by simp) (by simp[Ay,f,g,m,u,A,C,F]) H
 ·obtain ⟨h1,h2,h3⟩:=h.farms
  refine B6 _ (fun i (d:CY)=> [(d.area,0)]) x.farms _ h1 fun i hi=>?_
  obtain ⟨b,o,cs,g1,a,t,e,_,_,_,c,rfl,j⟩:=h3 i hi
  generalize x.farms[i]=d at*
  exact ⟨CD (p:=.string d.name::(AU d.on++[.bool d.river])) _ (AQ g1) (.inr a) e (by simp;rfl) rfl j,trivial⟩
 ·obtain ⟨h1,h2,h3⟩:=h.rots
  refine B6 _ (fun i (d:BG)=> [(d.flow,0),(d.frm,0),(d.to,0)]++Ek d.turns) x.rots _ h1 fun i hi=>?_
  obtain ⟨b,o,cs,g1,a,t,e,_,_,c0,c1,c2,rfl,n,l,r,I⟩:=h3 i hi
  generalize x.rots[i]=d at*
  have f:=n.len;have g:=l.len
  refine AD.append ⟨?_,?_,?_,trivial⟩ ?_
  ·exact CD (p:=.string d.name::(AU d.on++[iV d.rank])) _ (AQ g1) (.inr a) e (by simp;rfl) rfl n
  ·exact CD (p:=.string d.name::(AU d.on++(iV d.rank::c0))) _ (AQ g1) (.inr a) e (by simp;rfl) (by simp[Ay,f]) l
  ·exact CD (p:=.string d.name::(AU d.on++(iV d.rank::(c0++c1)))) _ (AQ g1) (.inr a) e (by simp;rfl) (by simp[Ay,f,g]) r
  ·obtain ⟨h1,h2,h3⟩:=I
   refine B6 _ (fun k (d:Cs)=> [(d.len,0)]) d.turns _ h1 fun k G=>?_
   obtain ⟨b,o,cs,g1,a,t,e,_,c,rfl,j⟩:=h3 k G
   exact ⟨CD (p:=AU (d.turns[k]).farm) (q:=[]) _ (AQ g1) (.inr a) e (by simp) rfl j,trivial⟩
 ·obtain ⟨h1,h2,h3⟩:=h.rights
  refine B6 _ (fun i (d:AZ)=> [(d.flow,0),(d.frm,0),(d.to,0),(d.every,0),(d.len,0)]) x.rights _ h1 fun i hi=>?_
  obtain ⟨b,o,cs,g1,a,t,e,_,_,_,c0,c1,c2,c3,c4,rfl,n,l,r,y,z⟩:=h3 i hi
  generalize x.rights[i]=d at*
  have f:=n.len;have g:=l.len;have m:=r.len;have u:=y.len
  refine ⟨?_,?_,?_,?_,?_,trivial⟩
  ·exact CD (p:=iV d.kind::.string d.name::(AU d.farm++(AU d.reach++[iV d.rank]))) _ (AQ g1) (.inr a) e (by simp;rfl) rfl n
  ·exact CD (p:=iV d.kind::.string d.name::(AU d.farm++(AU d.reach++(iV d.rank::c0)))) _ (AQ g1) (.inr a) e (by simp;rfl) (by simp[Ay,f]) l
  ·exact CD (p:=iV d.kind::.string d.name::(AU d.farm++(AU d.reach++(iV d.rank::(c0++c1))))) _ (AQ g1) (.inr a) e (by simp;rfl) (by simp[Ay,f,g]) r
  ·exact CD (p:=iV d.kind::.string d.name::(AU d.farm++(AU d.reach++(iV d.rank::(c0++(c1++c2)))))) _ (AQ g1) (.inr a) e (by simp;rfl) (by simp[Ay,f,g,m]) y
  ·exact CD (p:=iV d.kind::.string d.name::(AU d.farm++(AU d.reach++(iV d.rank::(c0++(c1++(c2++c3))))))) (q:=[]) _ (AQ g1) (.inr a) e (by simp) (by simp[Ay,f,g,m,u]) z
 ·obtain ⟨h1,h2,h3⟩:=h.duties
  refine B6 _ (fun i (d:D9)=> [(d.due,0)]) x.duties _ h1 fun i hi=>?_
  obtain ⟨b,o,cs,g1,a,t,e,_,_,_,c,rfl,j⟩:=h3 i hi
  generalize x.duties[i]=d at*
  exact ⟨CD (p:=.string d.name::(AU d.farm++AU d.reach)) (q:=[]) _ (AQ g1) (.inr a) e (by simp) rfl j,trivial⟩
theorem KO(h:BH N w L cs x)(hr:w.rangeAt L.s 0 cs){Bs:Nat}(d:w.cell? ⟨Bs,0,none⟩=some (.pointer (some ⟨L.s,0,none⟩))):IS L Bs w:=by
 obtain ⟨c0,c1,c2,rfl,u,g1,t⟩:=h.cells
 have n:=u.len;have y:=g1.len;have m:=t.len
 have a:=D7 (p:=.string x.name::(c0++(c1++c2))) (c:=[L.lets.v,L.crops.v,L.reaches.v,L.farms.v,L.rots.v,L.rights.v,L.duties.v]) (q:=[]) (o:=0) (b:=L.s) (w:=w) (by simpa using hr)
 have e:(Value.string x.name::(c0++(c1++c2))).length=19:=by simp[n,y,m]
 rw[e] at a
 refine ⟨d,a 0 _ rfl,a 1 _ rfl,a 2 _ rfl,a 3 _ rfl,a 4 _ rfl,a 5 _ rfl,a 6 _ rfl,fun i hi=>?_⟩
 obtain ⟨h1,h2,h3⟩:=h.rots
 obtain ⟨b,o,cs,k,C,B,z,_,_,j,f,g,rfl,l,r,A,_⟩:=h3 i (by omega)
 rw[AQ k]
 have:=D7 (p:=.string (x.rots[i]'(by omega)).name::(AU (x.rots[i]'(by omega)).on++(iV (x.rots[i]'(by omega)).rank::(j++(f++g))))) (c:=[(A2 L i).v]) (q:=[]) (o:=o+i*23) (b:=b) (w:=w) (by simpa using z)
 have e:(Value.string (x.rots[i]'(by omega)).name::(AU (x.rots[i]'(by omega)).on++(iV (x.rots[i]'(by omega)).rank::(j++(f++g))))).length=22:=by simp[Ay,l.len,r.len,A.len]
 rw[e] at this
 exact this 0 _ rfl
end
structure Us where
 b:Nat
 o:Nat
 to:Int
 at_:Int
 name:ByteArray
 n:Int
def Us.v(u:Us):Array Value:=#[.agg #[.pointer (some ⟨u.b,u.o,none⟩),.int .i64 u.to,.int .i64 u.at_]]
def O0(op:Int)(len:Nat):Bool:=decide (1<=op)&&(decide (op<=6)&&(if 3<=op then decide (len=2) else decide (len=0)))
def M6(op lt:Int):Int:=if op=2 then (if 0 < lt then 2 else 1) else 0
def PS(op lt:Int):Int:=if op=2 then (if 0 < lt then lt - 1 else 0) else 0
mutual
def C9(w:World)(lt:Int):Ex->Nat->Nat->List Us × Bool
 |.mk op _ _ rn ri args,b,o=>if O0 op args.length then (⟨b,o+3,M6 op lt,PS op lt,rn,ri⟩::(BB w lt args (w.cell? ⟨b,o+5,none⟩) 0).1,(BB w lt args (w.cell? ⟨b,o+5,none⟩) 0).2) else ([],false)
def BB(w:World)(lt:Int):List Ex->Option Value->Nat->List Us × Bool
 |[],_,_=>([],true)
 |e::r,v,i=>match v with
  |some (.slice (some ⟨b,o,none⟩) _ _)=>if (C9 w lt e b (o+i*6)).2 then ((C9 w lt e b (o+i*6)).1++(BB w lt r v (i+1)).1,(BB w lt r v (i+1)).2) else ((C9 w lt e b (o+i*6)).1,false)
  |_=>([],false)
end
theorem Mw{w:World}{lt:Int}{b o n c:Nat}{e:Ex}:∀(l:List Ex) (i:Nat),BB w lt (l++[e]) (some (.slice (some ⟨b,o,none⟩) n c)) i=
  if (BB w lt l (some (.slice (some ⟨b,o,none⟩) n c)) i).2 then ((BB w lt l (some (.slice (some ⟨b,o,none⟩) n c)) i).1++(C9 w lt e b (o+(i+l.length)*6)).1,(C9 w lt e b (o+(i+l.length)*6)).2) else BB w lt l (some (.slice (some ⟨b,o,none⟩) n c)) i
 |[],i=>by
  simp only[yQ,BB,yH,qu,zU]
  split
  ·rename_i h;simp[h]
  ·rename_i h;simp[h]
 |x::r,i=>by
  simp only[yK,BB,Mw r (i+1),yz]
  rw[show i+(r.length+1)=i+1+r.length by omega]
  by_cases h1:(C9 w lt x b (o+i*6)).2=true
  ·simp only[h1,zU]
   by_cases h2:(BB w lt r (some (.slice (some ⟨b,o,none⟩) n c)) (i+1)).2=true
   ·simp[h2]
   ·simp[h2]
  ·simp[h1]
theorem Mx{w:World}{lt:Int}{b o n c:Nat}:∀(l m:List Ex) (i:Nat),(BB w lt l (some (.slice (some ⟨b,o,none⟩) n c)) i).2=false->BB w lt (l++m) (some (.slice (some ⟨b,o,none⟩) n c)) i=BB w lt l (some (.slice (some ⟨b,o,none⟩) n c)) i
 |[],m,i,h=>by simp[BB] at h
 |x::r,m,i,h=>by
  simp only[BB,yK] at h ⊢
  by_cases h1:(C9 w lt x b (o+i*6)).2=true
  ·simp only[h1,zU] at h ⊢
   rw[Mx r m (i+1) h]
  ·simp[h1]
theorem Of{w:World}{lt:Int}{b o n c:Nat}:∀(l m:List Ex) (i:Nat),∃post,(BB w lt (l++m) (some (.slice (some ⟨b,o,none⟩) n c)) i).1=(BB w lt l (some (.slice (some ⟨b,o,none⟩) n c)) i).1++post
 |[],m,i=>⟨_,rfl⟩
 |x::r,m,i=>by
  simp only[BB,yK]
  by_cases h1:(C9 w lt x b (o+i*6)).2=true
  ·simp only[h1,zU]
   obtain ⟨post,a⟩:=Of r m (i+1)
   exact ⟨post,by rw[a];simp⟩
  ·simp only[h1]
   exact ⟨[],by simp⟩
mutual
def Sg(w:World)(C:Addr->Prop):Ex->Nat->Nat->Prop
 |.mk op _ _ _ _ args,b,o=>∃a cap,(w.cell? ⟨b,o,none⟩=some (.int .i64 op)∧C ⟨b,o,none⟩)∧(w.cell? ⟨b,o+5,none⟩=some (.slice a args.length cap)∧C ⟨b,o+5,none⟩)∧args.length<=140737488355328∧Kd w C a 0 args
def Kd(w:World)(C:Addr->Prop)(a:Option Addr):Nat->List Ex->Prop
 |_,[]=>True
 |i,e::r=>(∃b o,a=some ⟨b,o,none⟩∧Sg w C e b (o+i*6))∧Kd w C a (i+1) r
end
theorem Og{w:World}{C:Addr->Prop}{a:Option Addr}:∀ {l:List Ex} {k:Nat},Kd w C a k l->∀i (h:i < l.length),∃b o,a=some ⟨b,o,none⟩∧Sg w C l[i] b (o+(k+i)*6)
 |[],_,_,i,h=>by simp at h
 |e::r,k,hr,i,h=>by
  rw[Kd] at hr
  cases i with
  |zero=>exact hr.1
  |succ i=>
   obtain ⟨b,o,h1,h2⟩:=Og hr.2 i (by simpa using h)
   exact ⟨b,o,h1,by rw[show k+(i+1)=k+1+i by omega];simpa using h2⟩
theorem Sh{w:World}{lt:Int}{b o n c:Nat}{l:List Ex}{i:Nat}(h:i < l.length)(a:(BB w lt (l.take i) (some (.slice (some ⟨b,o,none⟩) n c)) 0).2=true):
  BB w lt (l.take (i+1)) (some (.slice (some ⟨b,o,none⟩) n c)) 0=((BB w lt (l.take i) (some (.slice (some ⟨b,o,none⟩) n c)) 0).1++(C9 w lt l[i] b (o+i*6)).1,(C9 w lt l[i] b (o+i*6)).2):=by
 have d:(l.take i).length=i:=by rw[zg];omega
 rw[yF h,Mw,a,yw rfl,d,yy]
structure Jo (J:Nat->(Nat->Prop)->World->Prop) (O:Nat->Prop) (B0 l By Bi k:Nat) (W:World):Prop where
 j:J k O W
 size:B0<=W.heap.size
 own:∀b,O b->b < W.heap.size
 y:O By∧W.cell? ⟨By,0,none⟩=some (.func (.yield l) #[] #[])
 i:O Bi∧W.cell? ⟨Bi,0,none⟩=some (.func (.func 71) #[] #[.pointer (some ⟨By,0,none⟩),.pointer (some ⟨Bi,0,none⟩)])
section
variable{J:Nat->NP->World->Prop}{Jx:NP->World->Prop}{Jp:List PanicEntry->NP->World->Prop}{O:NP}{B0 l By Bi k k':Nat}{W W':World}
theorem Jo.below(d:Cd J)(h:Jo J O B0 l By Bi k W)(hb:Below W.heap.size W W'):Jo J O B0 l By Bi k W':=
 ⟨d k O W O W' h.j hb.size hb.os hb.tape hb.output (fun b _ c=>hb.block b c) (fun _=>.inl),yu h.size hb.size,fun b a=>yt (h.own b a) hb.size,
  ⟨h.y.1,(hb.cell (p:=⟨By,0,none⟩) (h.own _ h.y.1)).trans h.y.2⟩,⟨h.i.1,(hb.cell (p:=⟨Bi,0,none⟩) (h.own _ h.i.1)).trans h.i.2⟩⟩
theorem Jo.same(h:Jo J O B0 l By Bi k W)(c:J k' O W')(hs:AN O W W'):Jo J O B0 l By Bi k' W':=
 ⟨c,yu h.size hs.1,fun b a=>yt (h.own b a) hs.1,⟨h.y.1,D6 hs h.y.1 h.y.2⟩,⟨h.i.1,D6 hs h.i.1 h.i.2⟩⟩
theorem Jo.sameBelow(h:Jo J O B0 l By Bi k W)(hb:Below W.heap.size W W'):AN O W W':=⟨hb.size,fun b a=>hb.block b (h.own b a)⟩
def Oh(J:Nat->NP->World->Prop)(Jx:NP->World->Prop)(Jp:List PanicEntry->NP->World->Prop)(O:NP)(k:Nat)(ok:Bool)(W:World)(e:Ending)(W':World):Prop:=
 (∃r:Bool,e=.returned (.bool r)∧AN O W W'∧((r=true∧ok=true∧J k O W')∨(r=false∧Jx O W')))∨∃a,e=.panicked a∧Jp a O W'∧AN O W W'
theorem Oh.from(hs:AN O W W'){e:Ending}{a:World}{ok:Bool}(h:Oh J Jx Jp O k ok W' e a):Oh J Jx Jp O k ok W e a:=by
 rcases h with ⟨r,h1,h2,h3⟩|h
 ·exact .inl ⟨r,h1,hs.trans h2,h3⟩
 ·obtain ⟨b,h1,h2,h3⟩:=h
  exact .inr ⟨b,h1,h2,hs.trans h3⟩
end
end Go.Proofs.YtjofgpfocadomaaGreatDoor
namespace Go.Proofs.YtjofgpfocadomaaGreatDoor
open Go.RowKit Go.Maps Go.ChangeMaps Go.WideMaps Go.MapKept
open Go.WideElems (Fit rd rg pl rd_val elemAt)
theorem Om:Keyed Tryz.prog 9:=string_keyed jd
theorem Wb(w:World):(zeroValue 3).run Tryz.prog w=.ok (.int .i64 0) w:=by kernel_rfl
def D0:LB->ByteArray->Option Nat
 |[],_=>none
 |x::r,s=>if x=s then some 0 else (D0 r s).map (·+1)
theorem Gv{l:LB}{s:ByteArray}(h:s∉l):D0 l s=none:=by
 induction l with
 |nil=>rfl
 |cons x r ih=>
  rw[yO,not_or] at h
  rw[D0,yq (fun e=>h.1 e.symm),ih h.2];rfl
theorem Jr{l:LB}{s:ByteArray}(h:s∈l):∃i,D0 l s=some i∧∃h:i < l.length,l[i]=s:=by
 induction l with
 |nil=>simp at h
 |cons x r ih=>
  rw[D0]
  by_cases a:x=s
  ·rw[yw a]
   exact ⟨0,rfl,by simp,by simpa using a⟩
  ·rw[yq a]
   obtain ⟨i,h1,h2,h3⟩:=ih ((yO.1 h).resolve_left (fun e=>a e.symm))
   exact ⟨i+1,by rw[h1];rfl,by simpa using h2,by simpa using h3⟩
theorem Q7{l:LB}{x:ByteArray}(h:x∉l)(s:ByteArray):D0 (l++[x]) s=if s=x then some l.length else D0 l s:=by
 induction l with
 |nil=>
  simp only[yQ,D0,yH]
  by_cases hs:s=x
  ·rw[yw hs,yw hs.symm]
  ·rw[yq hs,yq (fun e=>hs e.symm)];rfl
 |cons y r ih=>
  rw[yO,not_or] at h
  rw[yK,D0,D0,ih h.2]
  by_cases a:y=s
  ·rw[yw a,yw a]
   by_cases hs:s=x
   ·exact absurd (hs.symm.trans a.symm) h.1
   ·rw[yq hs]
  ·rw[yq a,yq a]
   by_cases hs:s=x
   ·rw[yw hs,yw hs];simp
   ·rw[yq hs,yq hs]
def BT(w:World)(m:Nat)(b:LB):Prop:=
 ∃c a,w.heap[m]?=some (.map c a)∧Fit (H:=Unit) Tryz.prog 9 (plainElem Tryz.prog 3) c a∧c.size=b.length∧
  ∀s:ByteArray,s.size<=maxLen->∀d:DataW Unit,(DataW.map ((c.toList.map (rg Tryz.prog 9 (plainElem Tryz.prog 3))).foldr DataW.insert [])).atKey (.string s.data.toList) d=(match D0 b s with|some i=>.lit (.int .i64 (i:Int))|none=>d)
theorem KT(w:World):BT (w.alloc (.map #[] 0)) w.heap.size []:=
 ⟨#[],0,(MapKept.heap_alloc w _).1,⟨by simp,stamped_empty 0,by simp⟩,rfl,fun s _ a=>rfl⟩
theorem BT.block{w w':World}{m:Nat}{b:LB}(h:BT w m b)(hb:w'.heap[m]?=w.heap[m]?):BT w' m b:=by
 obtain ⟨c,a,h1,h2⟩:=h
 exact ⟨c,a,hb.trans h1,h2⟩
theorem BT.lt{w:World}{m:Nat}{a:LB}(h:BT w m a):m < w.heap.size:=by
 obtain ⟨c,b,h1,h2⟩:=h
 exact (yd.1 h1).1
theorem BT.size{w:World}{m:Nat}{b:LB}(h:BT w m b):∃c a,w.heap[m]?=some (.map c a)∧c.size=b.length:=by
 obtain ⟨c,a,h1,_,h2,_⟩:=h
 exact ⟨c,a,h1,h2⟩
def Ip(a:LB)(s:ByteArray):Value:=
 match D0 a s with
 |some i=>.tuple #[.int .i64 (i:Int),.bool true]
 |none=>.tuple #[.int .i64 0,.bool false]
theorem BT.look{w:World}{m:Nat}{c:LB}(h:BT w m c)(s:ByteArray)(hs:s.size<=maxLen):
  (Instr.lookup 137 (.map (some m)) (.string s) true).run Tryz.prog w=.ok (Ip c s) w:=by
 obtain ⟨q,j,hb,F,_,e⟩:=h
 have d:=keyOf_string_mk (P:=Tryz.prog) jd hs
 rcases Maps.fit_look (t:=137) true Om qK (Wb w) hb F d with ⟨b,_,k⟩|⟨p,y,_,_,b,l,o,_⟩
 ·rw[b]
  have h1:=k .nil
  rw[e s hs] at h1
  unfold Ip
  cases g:D0 c s with
  |none=>rfl
  |some i=>rw[g] at h1;cases h1
 ·rw[b]
  obtain ⟨a,n,f,_⟩:=plainElem_int_inv (H:=Unit) qT l
  have h1:=o .nil
  rw[e s hs] at h1
  unfold Ip
  cases g:D0 c s with
  |none=>rw[g,f] at h1;cases h1
  |some i=>
   rw[g,f] at h1
   simp only[DataW.lit.injEq,Lit.int.injEq,qv] at h1
   rw[n,<-h1];rfl
theorem KU{H:Type}(p:Lit × DataW H):∀l:List (Lit × DataW H),p∈l.foldr DataW.insert []->p∈l
 |[],h=>h
 |x::r,h=>by
  rw[List.foldr_cons,mem_insert_iff] at h
  exact h.elim (fun e=>by rw[e];exact List.mem_cons_self) (fun h=>List.mem_cons_of_mem _ (KU p r h))
theorem BT.put{w:World}{m:Nat}{a:LB}(h:BT w m a)(s:ByteArray)(hs:s.size<=maxLen)(z:s∉a)(u:a.length < 1000000):
  ∃w',(Instr.mapUpdate 137 (.map (some m)) (.string s) (.int .i64 (a.length:Int))).run Tryz.prog w=.ok () w'∧BT w' m (a++[s])∧w.grownBy w' (some m):=by
 obtain ⟨k,r,hb,F,q,l⟩:=h
 have b:=keyOf_string_mk (P:=Tryz.prog) jd hs
 have B:plainElem (H:=Unit) Tryz.prog 3 (iV (a.length:Int))=some (.lit (.int .i64 (a.length:Int)),[]):=plainElem_int qT (by simp only[Lit.wf,yE,yT];exact ⟨by have:IntKind.min .i64= -9223372036854775808:=rfl;omega,by have:IntKind.max .i64=9223372036854775807:=rfl;omega⟩)
 obtain ⟨g,c,j,F',d,_⟩:=Maps.fit_store (R':=plainElem Tryz.prog 3) (t:=137) Om qK hb F (by unfold maxLen;omega) (fun _ _ _ _ u=>u) b B
 have n:∀x∈k.toList,x.key≠.string s:=by
  rcases Maps.fit_look (t:=137) true Om qK (Wb w) hb F b with ⟨_,h,_⟩|⟨G,y,_,_,_,_,v,_⟩
  ·exact h
  ·have h1:=v .nil
   have h2:=v (.lit (.bool true))
   rw[l s hs,Gv z] at h1 h2
   rw[<-h1] at h2
   cases h2
 refine ⟨_,j,⟨g,c,heap_setBlock_same hb _,F',?_,?_⟩,⟨rfl,rfl,rfl,by simp[setBlock],fun i _ hi=>heap_setBlock_other hb _ (fun e=>hi (by rw[e]))⟩⟩
 ·have D:g.size=((g.toList.map (rg Tryz.prog 9 (plainElem (H:=Unit) Tryz.prog 3))).foldr DataW.insert []).length:=by rw[length_sorted];simp
  rw[D,d]
  unfold putKey
  rw[length_insert]
  have A:=filter_all Om F b n
  have C:(((k.toList.map (rg Tryz.prog 9 (plainElem (H:=Unit) Tryz.prog 3))).foldr DataW.insert []).filter (notKey (.string s.data.toList)))=((k.toList.map (rg Tryz.prog 9 (plainElem (H:=Unit) Tryz.prog 3))).foldr DataW.insert []):=by
   rw[List.filter_eq_self] at A ⊢
   exact fun p o=>A p (KU p _ o)
  rw[C,length_sorted]
  simp[q]
 ·intro t E I
  rw[d]
  have o:(DataW.map (putKey (.string s.data.toList) (.lit (.int .i64 (a.length:Int))) ((k.toList.map (rg Tryz.prog 9 (plainElem (H:=Unit) Tryz.prog 3))).foldr DataW.insert [])))=(DataW.map ((k.toList.map (rg Tryz.prog 9 (plainElem (H:=Unit) Tryz.prog 3))).foldr DataW.insert [])).put (.string s.data.toList) (.lit (.int .i64 (a.length:Int))):=rfl
  rw[o,Q7 z]
  by_cases f:t=s
  ·subst f
   rw[yw rfl,atKey_put_same ⟨_,rfl⟩ (Om.key b)]
  ·rw[yq f,atKey_put_other (fun e=>f (by simp at e;exact ByteArray.ext (by simpa using e))),l t E]
end Go.Proofs.YtjofgpfocadomaaGreatDoor
namespace Go.Proofs.YtjofgpfocadomaaGreatDoor
open Go Go.RowKit
section
variable{P:Program}{ops:Array Oper}{Q:QT}{md:Region.Mode}{T:World->Prop}{k:Nat}
def E1(P:Program)(md:Region.Mode)(ops:Array Oper)(Q:QT)(T:World->Prop)(k:Nat):Nat->Array Bool->Act->World->Prop
 |0,listed,a,w=>Region.ready md ops listed=[]∧Q .normal a w
 |fuel+1,listed,a,w=>
  (Region.ready md ops listed=[]->Q .normal a w)∧
  ∀i∈Region.ready md ops listed,wpOp P ops Q i (fun b w'=>((listed.setIfInBounds i true).getD k true=false->T w')∧E1 P md ops Q T k fuel (listed.setIfInBounds i true) b w') a w
theorem L4:∀(fuel:Nat) (b:Array Bool) (a:Act) (w:World),E1 P md ops Q T k fuel b a w->wpAny P md ops Q fuel b a w
 |0,_,_,_,h=>h
 |fuel+1,_,_,_,h=>⟨h.1,fun i hi=>wpOp_mono (fun d w' c=>L4 fuel _ d w' c.2) (h.2 i hi)⟩
theorem Nr{i:Nat}{t:Oper}{v:Value}(hi:ops[i]?=some t)(n:∀(j:Nat) (o:Oper) cs b,ops[j]?=some o->o.op≠.select cs b)
 (O:∀c a w,Q (.panic c) (a.put t.dst v) w->Q (.panic c) a w)(s:k≠i)(G:∀ok,ops[k]?=some ok->∃e∈ok.after,Region.binds md e=true∧e.on=i):
  ∀(fuel:Nat) (d:Array Bool) (a:Act) (w:World),
   (∀j q,ops[j]?=some q->j≠i->d.getD j true=false->(∀e∈q.after,Region.binds md e=true->e.on≠i)->t.apart ops q=true)->
   i∈Region.ready md ops d->YieldsIf P ops T t v a->d.getD k true=false->T w->
   E1 P md ops Q T k fuel (d.setIfInBounds i true) (a.put t.dst v) w->E1 P md ops Q T k (fuel+1) d a w:=by
 intro fuel
 induction fuel with
 |zero=>
  intro d a w _ hr C x A H
  refine ⟨fun h=>(by rw[h] at hr;cases hr),fun j D=>?_⟩
  by_cases f:j=i
  ·subst f;exact C.wpOp hi A ⟨fun _=>A,H⟩
  ·have:=ready_mono D f
   rw[H.1] at this
   cases this
 |succ fuel ih=>
  intro d a w g hr C x A H
  refine ⟨fun h=>(by rw[h] at hr;cases hr),fun j D=>?_⟩
  by_cases f:j=i
  ·subst f;exact C.wpOp hi A ⟨fun _=>A,H⟩
  ·have h1:=H.2 j (ready_mono D f)
   obtain ⟨r,q,m,B⟩:=xE.1 D
   have p:∀e∈q.after,Region.binds md e=true->e.on≠i:=fun e F hb J=>by
    have h1:=B e F hb
    have h0:=(xE.1 hr).1
    rw[J] at h1
    rcases zO i d.size with I|I
    ·simp[I] at h0 h1;rw[h0] at h1;cases h1
    ·simp[xz I] at h1
   have z:k≠j:=fun e=>by
    subst e
    obtain ⟨e,F,hb,K⟩:=G q m
    exact p e F hb K
   have h2:=wpOp_putIf m (g j q m f r p) (fun cs b=>n i t cs b hi) (fun cs b=>n j q cs b m) O C h1
   have l:∀k ok,ops[k]?=some ok->k≠i->(d.setIfInBounds j true).getD k true=false->
     (∀e∈ok.after,Region.binds md e=true->e.on≠i)->t.apart ops ok=true:=fun k ok x s u E=>by
    refine g k ok x s ?_ E
    by_cases y:j=k
    ·subst y;exact r
    ·rw[xp true y] at u;exact u
   have L:(d.setIfInBounds j true).getD k true=false:=by rw[xp true (xd z)];exact x
   refine wpOp_mono (fun N w' h3=>?_) h2
   have M:T w':=h3.2.1 (by rw[xp true (xd z),xp true (xd s)];exact x)
   refine ⟨fun _=>M,ih (d.setIfInBounds j true) N w' l (ready_mono hr (xd f)) h3.1 L M ?_⟩
   rw[Array.setIfInBounds_comm _ _ f]
   exact h3.2.2
theorem Mc{i:Nat}{r:Oper}{v:Value}(hi:ops[i]?=some r)(n:∀(j:Nat) (o:Oper) cs b,ops[j]?=some o->o.op≠.select cs b)
 (L:∀c a w,Q (.panic c) (a.put r.dst v) w->Q (.panic c) a w)(g:k≠i):
  ∀(fuel:Nat) (d:Array Bool) (a:Act) (w:World),
   (∀j q,ops[j]?=some q->j≠i->d.getD j true=false->(∀e∈q.after,Region.binds md e=true->e.on≠i)->r.apart ops q=true)->
   i∈Region.ready md ops d->YieldsIf P ops (fun _=>True) r v a->(d.getD k true=false->T w)->
   E1 P md ops Q T k fuel (d.setIfInBounds i true) (a.put r.dst v) w->E1 P md ops Q T k (fuel+1) d a w:=by
 intro fuel
 induction fuel with
 |zero=>
  intro d a w _ hr B F H
  refine ⟨fun h=>(by rw[h] at hr;cases hr),fun j C=>?_⟩
  by_cases f:j=i
  ·subst f;exact B.wpOp hi trivial ⟨fun h=>F (by rw[xp true (xd g)] at h;exact h),H⟩
  ·have:=ready_mono C f
   rw[H.1] at this
   cases this
 |succ fuel ih=>
  intro d a w l hr B F H
  refine ⟨fun h=>(by rw[h] at hr;cases hr),fun j C=>?_⟩
  by_cases f:j=i
  ·subst f;exact B.wpOp hi trivial ⟨fun h=>F (by rw[xp true (xd g)] at h;exact h),H⟩
  ·have h1:=H.2 j (ready_mono C f)
   obtain ⟨p,q,s,A⟩:=xE.1 C
   have y:∀e∈q.after,Region.binds md e=true->e.on≠i:=fun e I hb E=>by
    have h1:=A e I hb
    have h0:=(xE.1 hr).1
    rw[E] at h1
    rcases zO i d.size with t|t
    ·simp[t] at h0 h1;rw[h0] at h1;cases h1
    ·simp[xz t] at h1
   have h2:=wpOp_putIf s (l j q s f p y) (fun cs b=>n i r cs b hi) (fun cs b=>n j q cs b s) L B h1
   have m:∀k ok,ops[k]?=some ok->k≠i->(d.setIfInBounds j true).getD k true=false->
     (∀e∈ok.after,Region.binds md e=true->e.on≠i)->r.apart ops ok=true:=fun k ok J g u D=>by
    refine l k ok J g ?_ D
    by_cases x:j=k
    ·subst x;exact p
    ·rw[xp true x] at u;exact u
   refine wpOp_mono (fun K w' h3=>?_) h2
   have G:(d.setIfInBounds j true).getD k true=false->T w':=fun h=>h3.2.1 (by
    by_cases z:k=j
    ·subst z
     rcases zO k d.size with t|t
     ·simp[t] at h
     ·simp at h
    ·rw[xp true (xd z)] at h ⊢
     rw[xp true (xd g)];exact h)
   refine ⟨G,ih (d.setIfInBounds j true) K w' m (ready_mono hr (xd f)) h3.1 G ?_⟩
   rw[Array.setIfInBounds_comm _ _ f]
   exact h3.2.2
theorem Af{i:Nat}{d:Oper}{v:Value}{fuel:Nat}{b:Array Bool}{a:Act}{w:World}(hi:ops[i]?=some d)
 (hs:Region.noSelect ops=true)(f:Region.free md ops b i=true)(hr:(Region.ready md ops b).contains i=true)
 (g:∀c a w,Q (.panic c) (a.put d.dst v) w->Q (.panic c) a w)(j:(k !=i)=true)(e:YieldsIf P ops (fun _=>True) d v a)(l:b.getD k true=false->T w)
 (h:E1 P md ops Q T k fuel (b.setIfInBounds i true) (a.put d.dst v) w):E1 P md ops Q T k (fuel+1) b a w:=
 Mc hi (Region.noSelect_spec hs) g (by simpa using j) fuel b a w (Region.free_spec hi f) (by simpa using hr) e l h
def TM(md:Region.Mode)(ops:Array Oper)(k i:Nat):Bool:=match ops[k]? with
 |none=>false
 |some o=>o.after.any fun e=>Region.binds md e&&e.on==i
theorem AO{i:Nat}{f:Oper}{v:Value}{fuel:Nat}{b:Array Bool}{a:Act}{w:World}(hi:ops[i]?=some f)
 (hs:Region.noSelect ops=true)(j:Region.free md ops b i=true)(hr:(Region.ready md ops b).contains i=true)
 (o:∀c a w,Q (.panic c) (a.put f.dst v) w->Q (.panic c) a w)(d:(k !=i&&!b.getD k true&&TM md ops k i)=true)(n:YieldsIf P ops T f v a)(l:T w)
 (h:E1 P md ops Q T k fuel (b.setIfInBounds i true) (a.put f.dst v) w):E1 P md ops Q T k (fuel+1) b a w:=by
 simp only[yE,bne_iff_ne,Bool.not_eq_true'] at d
 refine Nr hi (Region.noSelect_spec hs) o d.1.1 (fun ok g=>?_) fuel b a w (Region.free_spec hi j) (by simpa using hr) n d.1.2 l h
 have:=d.2
 unfold TM at this
 rw[g] at this
 simp only[qb,yE,beq_iff_eq] at this
 obtain ⟨e,m,h1,h2⟩:=this
 exact ⟨e,m,h1,h2⟩
theorem Ag{i:Nat}{o:Oper}{fuel:Nat}{b:Array Bool}{a:Act}{w:World}(hr:Region.ready md ops b=[i])(d:ops[i]?=some o)
 (h:∀K:Act->World->Prop,Hid (∀a w,((b.setIfInBounds i true).getD k true=false->T w)->E1 P md ops Q T k fuel (b.setIfInBounds i true) a w->K a w)->if Region.wanted o (yielded ops a.tmps)=true then Oper.wp P o a w K Q else K (a.put o.dst undef) w):E1 P md ops Q T k (fuel+1) b a w:=by
 refine ⟨fun h0=>(by rw[hr] at h0;cases h0),fun j c=>?_⟩
 rw[hr] at c
 obtain rfl:=zn.1 c
 exact wpOp_step d (fun e g=>h e (yb fun a w l f=>g a w ⟨l,f⟩))
theorem Dh{fuel:Nat}{b:Array Bool}{a:Act}{w:World}(hr:Region.ready md ops b=[])(h:Q .normal a w):E1 P md ops Q T k fuel b a w:=by
 cases fuel with
 |zero=>exact ⟨hr,h⟩
 |succ n=>exact ⟨fun _=>h,by rw[hr];simp⟩
theorem Di{id:Nat}{a:Act}{w:World}(b:P.follows .mixedOrders=true)(T:World->Prop)(k:Nat)
 (h:E1 P .any ops Q T k ops.size (Array.replicate ops.size false) a w.drew):(Code.region id ops true).wp P Q a w:=
 wp_region_any b (L4 _ _ _ _ h)
end
end Go.Proofs.YtjofgpfocadomaaGreatDoor
namespace Go.Proofs.YtjofgpfocadomaaGreatDoor
open Go
structure Jy (ops:Array Oper) (a₀:Act) (Ext:Array Bool->Array Value->World->Prop) (Pp:Nat->Value->World->Prop) (listed:Array Bool) (a:Act) (w:World):Prop where
 size:listed.size=ops.size
 down:∀m,listed.getD m false=true->∀o,ops[m]?=some o->∀e∈o.after,Region.binds .any e=true->listed.getD e.on false=true
 ext:Ext listed a.tmps w
 defers:a.defers=a₀.defers
 tmps:a.tmps.size=a₀.tmps.size
 done:∀i,listed.getD i false=true->∀o t,ops[i]?=some o->o.dst=some t->Pp i (a.tmps.getD t undef) w
 free:∀k,(∀i,listed.getD i false=true->∀o,ops[i]?=some o->o.dst≠some k)->a.tmps.getD k undef=a₀.tmps.getD k undef
theorem Az{a:Act}{t:Nat}(v:Value)(h:t < a.tmps.size):(a.put (some t) v).tmps.getD t undef=v:=by
 simp[Act.put,h]
theorem Ck{a:Act}{t k:Nat}(v:Value)(h:t≠k):(a.put (some t) v).tmps.getD k undef=a.tmps.getD k undef:=by
 simp[Act.put,h]
def FX(ops:Array Oper):Bool:=(ops.toList.filterMap (·.dst)).Nodup&&(List.range ops.size).all fun i=>(ops[i]?).all fun o=>o.after.all fun e=>decide (e.on < i)||!Region.binds .any e
def He(n:Nat)(ops:Array Oper):Bool:=ops.all fun o=>o.dst.all fun t=>decide (t < n)
theorem RD:∀ {l:List Oper},(l.filterMap (·.dst)).Nodup->∀ {i j:Nat} {d c:Oper} {t:Tmp},l[i]?=some d->l[j]?=some c->d.dst=some t->c.dst=some t->i=j
 |[],_,i,_,_,_,_,h,_,_,_=>by simp at h
 |x::r,hn,i,j,d,c,t,hi,b,di,dj=>by
  have hr:(r.filterMap (·.dst)).Nodup:=by
   rw[List.filterMap_cons] at hn
   split at hn
   ·exact hn
   ·exact (List.nodup_cons.1 hn).2
  have a:∀ {k:Nat} {o:Oper},r[k]?=some o->o.dst=some t->x.dst≠some t:=by
   intro k o e hd f
   rw[List.filterMap_cons,f] at hn
   exact (List.nodup_cons.1 hn).1 (List.mem_filterMap.2 ⟨o,zW e,hd⟩)
  cases i with
  |zero=>
   cases j with
   |zero=>rfl
   |succ j=>
    simp only[xY,yZ] at hi
    subst hi
    exact (a (by simpa using b) dj di).elim
  |succ i=>
   cases j with
   |zero=>
    simp only[xY,yZ] at b
    subst b
    exact (a (by simpa using hi) di dj).elim
   |succ j=>exact yD (·+1) (RD hr (by simpa using hi) (by simpa using b) di dj)
variable{P:Program}{ops:Array Oper}{Q:QT}
theorem Ny{l:Array Bool}{i:Nat}(h:l.getD i false=true):i < l.size:=by
 rcases zO i l.size with a|a
 ·exact a
 ·simp[xz a] at h
def Lh(ops:Array Oper):Nat->Nat->Nat->Bool
 |0,_,_=>false
 |f+1,j,i=>(ops[j]?).any fun o=>o.after.any fun e=>Region.binds .any e&&(e.on==i||Lh ops f e.on i)
theorem A1{a:Array Bool}(hd:∀m,a.getD m false=true->∀o,ops[m]?=some o->∀e∈o.after,Region.binds .any e=true->a.getD e.on false=true):
  ∀(f j i:Nat),Lh ops f j i=true->a.getD j false=true->a.getD i false=true
 |0,_,_,h,_=>by cases h
 |f+1,j,i,h,hj=>by
  rw[Lh] at h
  cases c:ops[j]? with
  |none=>rw[c] at h;cases h
  |some o=>
   rw[c,Option.any_some,qb] at h
   obtain ⟨e,g,b⟩:=h
   simp only[yE,Bool.or_eq_true,beq_iff_eq] at b
   have d:=hd j hj o c e g b.1
   rcases b.2 with h2|h2
   ·rw[<-h2];exact d
   ·exact A1 hd f e.on i h2 d
theorem Jy.next{H:Act}{s:Array Bool->Array Value->World->Prop}{B:Nat->Value->World->Prop}{Q:Nat->World->World->Prop}(r:FX ops=true)(q:He H.tmps.size ops=true)
 (L:∀i j v w w',j≠i->(∀f,Lh ops f j i=false)->Q i w w'->B j v w->B j v w'){b:Array Bool}{a:Act}{w:World}(h:Jy ops H s B b a w){i:Nat}{o:Oper}(hi:i∈Region.ready .any ops b)(g:ops[i]?=some o)
 {v:Value}{w':World}(U:s (b.setIfInBounds i true) (a.put o.dst v).tmps w')(O:Q i w w')(V:B i v w'):Jy ops H s B (b.setIfInBounds i true) (a.put o.dst v) w':=by
 obtain ⟨p,y,I,D⟩:=xE.1 hi
 obtain rfl:y=o:=yi (I.symm.trans g)
 have C:i < b.size:=by rw[h.size];exact (yd.1 g).1
 have n:∀ {m:Nat},(b.setIfInBounds i true).getD m false=true->m=i∨b.getD m false=true:=by
  intro m d
  by_cases e:i=m
  ·exact .inl e.symm
  ·rw[xp false e] at d;exact .inr d
 unfold FX at r
 rw[yE,yT] at r
 have F:∀ {i j:Nat} {S R:Oper} {t:Tmp},ops[i]?=some S->ops[j]?=some R->S.dst=some t->R.dst=some t->i=j:=fun hi X W T=>
  RD r.1 (by simpa using hi) (by simpa using X) W T
 have M:∀ {i:Nat} {o:Oper} {t:Tmp},ops[i]?=some o->o.dst=some t->t < H.tmps.size:=by
  intro i o t g hd
  unfold He at q
  rw[zy] at q
  have:=q o (xf g)
  rw[hd] at this
  simpa using this
 refine ⟨by simp[h.size],?_,U,?_,?_,?_,?_⟩
 ·intro m d E c e A hb
  rcases n d with rfl|d
  ·obtain rfl:=yi (c.symm.trans g)
   exact getD_set_true (D e A hb)
  ·exact getD_set_true (h.down m d E c e A hb)
 ·rw[<-h.defers];unfold Act.put;cases y.dst<;>rfl
 ·rw[<-h.tmps];unfold Act.put;cases y.dst<;>simp
 ·intro m d E t c hd
  by_cases e:m=i
  ·subst e
   obtain rfl:=yi (c.symm.trans g)
   rw[hd,Az _ (by rw[h.tmps];exact M g hd)]
   exact V
  ·have G:=(n d).resolve_left e
   have K:∀f,Lh ops f m i=false:=by
    intro f
    rw[ym]
    intro hb
    have z:=A1 h.down f m i hb G
    simp[C] at p z
    rw[z] at p;cases p
   have l:=L _ _ _ _ _ e K O (h.done m G E t c hd)
   cases x:y.dst with
   |none=>exact l
   |some u=>
    rw[Ck _ (fun J=>e (F c g hd (by rw[x,J])))]
    exact l
 ·intro k P
  have N:=h.free k (fun m d E c=>P m (getD_set_true d) E c)
  rw[<-N]
  cases x:y.dst with
  |none=>rfl
  |some u=>
   refine Ck _ (fun J=>?_)
   refine P i ?_ y g (by rw[x,J])
   simp[C]
theorem Li(c:FX ops=true){a:Array Bool}(hs:a.size=ops.size)(h:Region.ready .any ops a=[]):∀i,i < ops.size->a.getD i false=true:=by
 intro i
 induction i using Nat.strongRecOn with
 |ind i ih=>
  intro hi
  by_cases f:a.getD i false=true
  ·exact f
  ·exfalso
   have d:a.getD i true=false:=by
    have:i < a.size:=by omega
    simp[this] at f ⊢
    exact f
   have b:i∈Region.ready .any ops a:=by
    refine xE.2 ⟨d,ops[i],by simp[hi],fun e k g=>?_⟩
    have j:e.on < i:=by
     unfold FX at c
     rw[yE,yW] at c
     have h1:=c.2 i (zj.2 hi)
     simp only[Array.getElem?_eq_getElem hi,Option.all_some,zy] at h1
     have h2:=h1 e k
     rw[g] at h2
     simpa using h2
    exact ih e.on j (by omega)
   rw[h] at b
   cases b
theorem Sz{A:Act}{m:Array Bool->Array Value->World->Prop}{u:Nat->Value->World->Prop}{G:Nat->World->World->Prop}(z:FX ops=true)(C:He A.tmps.size ops=true)
 (B:∀i j v w w',j≠i->(∀f,Lh ops f j i=false)->G i w w'->u j v w->u j v w')
 (t:∀i b a w,Jy ops A m u b a w->i∈Region.ready .any ops b->∀o,ops[i]?=some o->wpOp P ops Q i (fun F w'=>∃v,F=a.put o.dst v∧m (b.setIfInBounds i true) (a.put o.dst v).tmps w'∧G i w w'∧u i v w') a w)
 (n:∀b a w,(∀i,i < ops.size->b.getD i false=true)->Jy ops A m u b a w->Q .normal a w):
  ∀(fuel:Nat) (b:Array Bool) (a:Act) (w:World),(∀i,i < ops.size->b.getD i false=true)∨((List.range ops.size).filter fun i=>!b.getD i false).length<=fuel->Jy ops A m u b a w->wpAny P .any ops Q fuel b a w:=by
 intro fuel
 induction fuel with
 |zero=>
  intro b a w s hM
  have q:∀i,i < ops.size->b.getD i false=true:=by
   rcases s with s|s
   ·exact s
   ·intro i hi
    have h0:=zv.1 (Nat.le_zero.1 s)
    have:=List.filter_eq_nil_iff.1 h0 i (zj.2 hi)
    simpa using this
  refine ⟨?_,n _ _ _ q hM⟩
  cases hr:Region.ready .any ops b with
  |nil=>rfl
  |cons i r=>
   exfalso
   have hi:i∈Region.ready .any ops b:=by rw[hr];simp
   obtain ⟨c,o,x,_⟩:=xE.1 hi
   have d:=(yd.1 x).1
   have:=q i d
   have k:i < b.size:=by rw[hM.size];exact d
   simp[k] at c this
   rw[this] at c;cases c
 |succ fuel ih=>
  intro b a w s hM
  refine ⟨fun hr=>n _ _ _ (Li z hM.size hr) hM,fun i hi=>?_⟩
  obtain ⟨c,o,x,_⟩:=xE.1 hi
  have d:=(yd.1 x).1
  have k:i < b.size:=by rw[hM.size];exact d
  have g:b.getD i false=false:=by simp[k] at c ⊢;exact c
  refine wpOp_mono (fun F w' H=>?_) (t i b a w hM hi o x)
  obtain ⟨v,rfl,I,D,J⟩:=H
  refine ih _ _ _ (.inr ?_) (hM.next z C B hi x I D J)
  have K:=s.resolve_left (fun h=>by rw[h i d] at g;cases g)
  have y:((List.range ops.size).filter fun j=>!(b.setIfInBounds i true).getD j false)=((List.range ops.size).filter fun j=>!b.getD j false).filter fun j=>decide (j≠i):=by
   rw[List.filter_filter]
   refine List.filter_congr fun j _=>?_
   by_cases e:i=j
   ·subst e;simp[k]
   ·rw[xp false e];simp[xd e]
  rw[y]
  have E:=(List.length_filter_lt_length_iff_exists (p:=fun j=>decide (j≠i)) (l:=(List.range ops.size).filter fun j=>!b.getD j false)).2 ⟨i,List.mem_filter.2 ⟨zj.2 d,by rw[g];rfl⟩,by simp⟩
  omega
theorem Mg{id:Nat}{h:Act}{r:World}(u:P.follows .mixedOrders=true)(d:Array Bool->Array Value->World->Prop)(l:Nat->Value->World->Prop)(s:Nat->World->World->Prop)(q:FX ops=true)(p:He h.tmps.size ops=true)
 (n:∀i j v w w',j≠i->(∀f,Lh ops f j i=false)->s i w w'->l j v w->l j v w')(h0:d (Array.replicate ops.size false) h.tmps r.drew)
 (g:∀i b a w,Jy ops h d l b a w->i∈Region.ready .any ops b->∀o,ops[i]?=some o->wpOp P ops Q i (fun t w'=>∃v,t=a.put o.dst v∧d (b.setIfInBounds i true) (a.put o.dst v).tmps w'∧s i w w'∧l i v w') a w)
 (k:∀b a w,(∀i,i < ops.size->b.getD i false=true)->Jy ops h d l b a w->Q .normal a w):(Code.region id ops true).wp P Q h r:=by
 refine wp_region_any u ?_
 have e:∀i,(Array.replicate ops.size false).getD i false=false:=fun i=>by
  simp[Array.getElem?_replicate];split<;>rfl
 refine Sz q p n g k ops.size _ h _ (.inr ?_) ⟨by simp,fun m c=>?_,h0,rfl,rfl,fun m c=>?_,fun _ _=>rfl⟩
 ·exact yu (List.length_filter_le _ _) (by simp)
 ·rw[e] at c;cases c
 ·rw[e] at c;cases c
def CV(id:Nat):Code->Option (Array Oper)
 |.region i ops _=>if i=id then some ops else none
 |.seq x y=>(CV id x).or (CV id y)
 |.cond _ x y=>(CV id x).or (CV id y)
 |.block _ x=>CV id x
 |.loop x=>CV id x
 |.rangeFunc _ _ x y=>(CV id x).or (CV id y)
 |.scope x=>CV id x
 |_=>none
def DP(f:Func)(id:Nat):Option (Array Oper):=f.body.bind (CV id)
def TZ(c:Array Value->World->Prop)(f:World->World->Prop)(e:Value->World->Prop)(b:Option Tmp)(a:Act)(w:World)(d:Act)(w':World):Prop:=
 ∃v,d=a.put b v∧c (a.put b v).tmps w'∧f w w'∧e v w'
def Nz(ops:Array Oper):Bool:=ops.all fun o=>o.guard.isNone
theorem BP{id:Nat}{k:Act}{r:World}(u:P.follows .mixedOrders=true)(c:Array Bool->Array Value->World->Prop)(g:Nat->Value->World->Prop)(n:Nat->World->World->Prop)(q:FX ops=true)(p:He k.tmps.size ops=true)
 (d:Nz ops=true)(m:∀i j v w w',j≠i->(∀f,Lh ops f j i=false)->n i w w'->g j v w->g j v w')(h0:c (Array.replicate ops.size false) k.tmps r.drew)
 (e:∀i b a w,Jy ops k c g b a w->i∈Region.ready .any ops b->∀o,ops[i]?=some o->o.wp P a w (TZ (c (b.setIfInBounds i true)) (n i) (g i) o.dst a w) Q)
 (h:∀b a w,(∀i,i < ops.size->b.getD i false=true)->Jy ops k c g b a w->Q .normal a w):(Code.region id ops true).wp P Q k r:=by
 refine Mg u c g n q p m h0 (fun i b a w hM hi o l=>?_) h
 unfold wpOp
 rw[l]
 have t:o.guard=none:=by
  unfold Nz at d
  rw[zy] at d
  simpa using d o (xf l)
 have s:Region.wanted o (yielded ops a.tmps)=true:=by simp[Region.wanted,t]
 simp only[s,zU]
 exact .inl (e i b a w hM hi o l)
theorem Jy.dep{n:Act}{g:Array Bool->Array Value->World->Prop}{l:Nat->Value->World->Prop}{b:Array Bool}{a:Act}{w:World}(h:Jy ops n g l b a w){i:Nat}(hi:i∈Region.ready .any ops b)
 (j:Nat)(t:Tmp)(hb:((ops[i]?).any fun o=>o.after.any fun e=>e.on==j&&Region.binds .any e)=true)(hd:(ops[j]?).bind (·.dst)=some t):l j (a.tmps[t]?.getD undef) w:=by
 rw[<-yB]
 obtain ⟨_,o,m,d⟩:=xE.1 hi
 rw[m,Option.any_some,qb] at hb
 obtain ⟨e,p,c⟩:=hb
 simp only[yE,beq_iff_eq] at c
 obtain ⟨rfl,f⟩:=c
 cases k:ops[e.on]? with
 |none=>rw[k] at hd;cases hd
 |some oj=>
  rw[k,xi] at hd
  exact h.done e.on (d e p f) oj t k hd
theorem Jy.came{k:Act}{f:Array Bool->Array Value->World->Prop}{l:Nat->Value->World->Prop}{b:Array Bool}{a:Act}{w:World}(_:Jy ops k f l b a w){i:Nat}(hi:i∈Region.ready .any ops b)
 (j:Nat)(hb:((ops[i]?).any fun o=>o.after.any fun e=>e.on==j&&Region.binds .any e)=true):b.getD j false=true:=by
 obtain ⟨_,o,g,d⟩:=xE.1 hi
 rw[g,Option.any_some,qb] at hb
 obtain ⟨e,h,c⟩:=hb
 simp only[yE,beq_iff_eq] at c
 rw[<-c.1]
 exact d e h c.2
theorem Jy.not_yet{g:Act}{e:Array Bool->Array Value->World->Prop}{j:Nat->Value->World->Prop}{b:Array Bool}{a:Act}{w:World}(h:Jy ops g e j b a w){i:Nat}(hi:i∈Region.ready .any ops b):b.getD i false=false:=by
 obtain ⟨c,o,f,_⟩:=xE.1 hi
 have d:i < b.size:=by rw[h.size];exact (yd.1 f).1
 simp[d] at c ⊢
 exact c
theorem Jy.old{n:Act}{l:Array Bool->Array Value->World->Prop}{q:Nat->Value->World->Prop}{b:Array Bool}{a:Act}{w:World}(h:Jy ops n l q b a w){i:Nat}(hi:i∈Region.ready .any ops b)
 (k:Tmp)(hb:(ops.all fun o=>o.dst !=some k||o.after.any fun e=>e.on==i&&Region.binds .any e)=true)(v:Value)(s:n.tmps.getD k undef=v):a.tmps[k]?.getD undef=v:=by
 rw[<-yB,<-s]
 refine h.free k fun m t p g hd=>?_
 rw[zy] at hb
 have:=hb p (xf g)
 rw[hd] at this
 simp only[bne_self_eq_false,Bool.false_or,qb] at this
 obtain ⟨e,r,f⟩:=this
 simp only[yE,beq_iff_eq] at f
 have c:=h.down m t p g e r f.2
 rw[f.1] at c
 have d:=(xE.1 hi).1
 have j:=Ny c
 simp[j] at d c
 rw[c] at d;cases d
theorem Gz{a b:Act}(D:List Nat)(hs:a.tmps.size=b.tmps.size)(hd:a.defers=b.defers)(g:∀k,k∉D->a.tmps.getD k undef=b.tmps.getD k undef):
  a={tmps:=D.foldl (fun t k=>t.setIfInBounds k (a.tmps.getD k undef)) b.tmps,defers:=b.defers}:=by
 have c:∀(D:List Nat) (t:Array Value),t.size=a.tmps.size->(∀k,k∉D->a.tmps.getD k undef=t.getD k undef)->a.tmps=D.foldl (fun t k=>t.setIfInBounds k (a.tmps.getD k undef)) t:=by
  intro D
  induction D with
  |nil=>
   intro t f h
   apply Array.ext f.symm
   intro i h1 h2
   have:=h i (by simp)
   simpa[h1,h2] using this
  |cons x r ih=>
   intro t f h
   rw[qt]
   refine ih _ (by simp[f]) fun k j=>?_
   by_cases e:x=k
   ·subst e
    by_cases l:x < t.size
    ·simp[l]
    ·simp[xz (show a.tmps.size<=x by omega)]
   ·rw[h k (by simp[j,xd e])]
    simp[e]
 obtain ⟨t,d⟩:=a
 simp only at hd
 subst hd
 exact yD (fun t=>({tmps:=t,defers:=b.defers}:Act)) (c D b.tmps hs.symm g)
end Go.Proofs.YtjofgpfocadomaaGreatDoor
namespace Go.Proofs.YtjofgpfocadomaaGreatDoor
open Go.RowKit
structure Rt where
 n:Int
 d:Int
def It:Rt:=⟨0,0⟩
def BR:Int:=1073741824
def Ba(a:Rt):Bool:=decide (1<=a.d)&&(decide (a.d<=BR)&&(decide (-BR<=a.n)&&(decide (a.n<=BR)&&decide (Int.gcd a.n a.d=1))))
def C8(n d:Int):Rt × Int:=
 if d=0 then (It,120)
 else if BR < max ((n.natAbs / Int.gcd n d:Nat):Int) ((d.natAbs / Int.gcd n d:Nat):Int) then (It,2)
 else (⟨if (decide (n < 0) !=decide (d < 0))=true then -((n.natAbs / Int.gcd n d:Nat):Int) else ((n.natAbs / Int.gcd n d:Nat):Int),((d.natAbs / Int.gcd n d:Nat):Int)⟩,0)
def Cu(op:Int)(a b:Rt):Int × Int:=
 if op=3 then (a.n*b.d+b.n*a.d,a.d*b.d) else if op=4 then (a.n*b.d - b.n*a.d,a.d*b.d) else if op=5 then (a.n*b.n,a.d*b.d) else (a.n*b.d,a.d*b.n)
def KB(op:Int)(a b:Rt):Rt × Int:=if (Ba a&&Ba b)=true then C8 (Cu op a b).1 (Cu op a b).2 else (It,120)
structure Dm where
 l:Int
 h:Int
 a:Int
deriving DecidableEq
def O5:Dm:=⟨0,0,0⟩
def Qu(n:Int):Bool:=decide (-4<=n)&&decide (n<=4)
def Fv(d:Dm):Bool:=Qu d.l&&(Qu d.h&&Qu d.a)
def GB(s:Int)(a b:Dm):Dm:=⟨a.l+s*b.l,a.h+s*b.h,a.a+s*b.a⟩
def I5(op:Int)(a b:Dm):Dm × Bool:=
 if op=3∨op=4 then (a,decide (a=b)) else
 let d:=GB (if op=5 then 1 else -1) a b
 if Fv d then (d,true) else (O5,false)
structure Qn where
 dim:Dm
 v:Rt
 e:Int
def Fx:Qn:=⟨O5,It,0⟩
structure Kn where
 name:ByteArray
 q:Qn
 ok:Bool
def Eh(u:Int):Dm:=if u=1∨u=2 then ⟨1,0,0⟩ else if u=3∨u=4 then ⟨0,1,0⟩ else if u=5 then ⟨0,0,1⟩ else O5
def Cz(u:Int):Int:=if u=2 then 1000 else if u=4 then 24 else 1
def J3:Int:=1099511627776
def GP(n u:Int):Qn:=if BR / Cz u < n then ⟨Eh u,It,2⟩ else ⟨Eh u,⟨Cz u*n,1⟩,0⟩
def CH(rn:ByteArray)(ri:Int):Bool:=decide (rn.size=0∧ri=0)
def SB(op:Int)(a b:Qn × Bool):Qn × Bool:=
 if (a.2&&b.2)=true then
  (let d:=I5 op a.1.dim b.1.dim
  if d.2=true then
   (if a.1.e≠0 then (⟨d.1,It,a.1.e⟩,true) else if b.1.e≠0 then (⟨d.1,It,b.1.e⟩,true) else (⟨d.1,(KB op a.1.v b.1.v).1,(KB op a.1.v b.1.v).2⟩,true))
  else (Fx,false))
 else (Fx,false)
def Hg(a:List Kn)(rn:ByteArray)(ri:Int):Qn × Bool:=match a[ri.toNat]? with
 |some k=>if k.name=rn∧0<=ri then (k.q,k.ok) else (Fx,false)
 |none=>(Fx,false)
def Qv(op n u:Int)(rn:ByteArray)(ri:Int):Bool:=decide (3<=op)&&(decide (op<=6)&&(decide (n=0)&&(decide (u=0)&&CH rn ri)))
def F0(a:List Kn):Nat->Ex->Qn × Bool
 |left,.mk op n u rn ri args=>
  if op=1 then (if args.length=0∧CH rn ri=true∧0<=n∧n<=J3∧0<=u∧u<=5 then (GP n u,true) else (Fx,false))
  else if op=2 then (if args.length=0∧n=0∧u=0 then Hg a rn ri else (Fx,false))
  else match left,args with
   |left+1,[x,y]=>if Qv op n u rn ri=true then SB op (F0 a left x) (F0 a left y) else (Fx,false)
   |_,_=>(Fx,false)
def Am:List Kn->List (ByteArray × Ex)->List Kn
 |l,[]=>l
 |l,d::r=>Am (l++[⟨d.1,(F0 l 8 d.2).1,(F0 l 8 d.2).2⟩]) r
def RG(a b:Qn × Bool):Prop:=a.2=b.2∧a.1.dim=b.1.dim∧a.1.v=b.1.v∧(a.1.e=0↔b.1.e=0)
theorem RG.trans{a b c:Qn × Bool}(h:RG a b)(k:RG b c):RG a c:=⟨h.1.trans k.1,h.2.1.trans k.2.1,h.2.2.1.trans k.2.2.1,h.2.2.2.trans k.2.2.2⟩
mutual
def Cr(a:Ex->Ex):Nat->Ex->Ex
 |0,e=>a e
 |left+1,.mk op n u rn ri args=>if args.length=0 then a (.mk op n u rn ri args) else .mk op n u rn ri (NC a left args)
def NC(a:Ex->Ex):Nat->List Ex->List Ex
 |_,[]=> []
 |left,e::r=>Cr a left e::NC a left r
end
theorem GC(a:List Kn)(l:Nat)(n u:Int)(rn:ByteArray)(ri:Int)(args:List Ex):F0 a l (.mk 1 n u rn ri args)=if args.length=0∧CH rn ri=true∧0<=n∧n<=J3∧0<=u∧u<=5 then (GP n u,true) else (Fx,false):=by
 unfold F0
 rfl
theorem Qw{x y p q:Nat}(h1:Nat.Coprime x y)(h2:Nat.Coprime p q)(a:0 < y)(d:0 < q)(h:x*q=p*y):x=p∧y=q:=by
 have b:y∣q:=h1.symm.dvd_of_dvd_mul_left (by rw[h];exact Nat.dvd_mul_left _ _)
 have c:q∣y:=h2.symm.dvd_of_dvd_mul_left (by rw[<-h];exact Nat.dvd_mul_left _ _)
 have e:=Nat.dvd_antisymm b c
 subst e
 exact ⟨Nat.eq_of_mul_eq_mul_right a h,rfl⟩
theorem Et(a:Rt):Ba a=true↔1<=a.d∧a.d<=BR∧ -BR<=a.n∧a.n<=BR∧Nat.Coprime a.n.natAbs a.d.natAbs:=by
 unfold Ba
 simp only[yE,yT]
 rfl
theorem Fy{n d:Int}(hd:d≠0):∃(g x y:Nat),0 < g∧n.natAbs=x*g∧d.natAbs=y*g∧Nat.Coprime x y∧0 < y∧n.natAbs / Int.gcd n d=x∧d.natAbs / Int.gcd n d=y:=by
 have b:0 < d.natAbs:=by omega
 have a:0 < Int.gcd n d:=Nat.gcd_pos_of_pos_right _ b
 refine ⟨Int.gcd n d,n.natAbs / Int.gcd n d,d.natAbs / Int.gcd n d,a,?_,?_,Nat.coprime_div_gcd_div_gcd a,?_,rfl,rfl⟩
 ·exact (Nat.div_mul_cancel (Nat.gcd_dvd_left _ _)).symm
 ·exact (Nat.div_mul_cancel (Nat.gcd_dvd_right _ _)).symm
 ·exact Nat.div_pos (Nat.le_of_dvd b (Nat.gcd_dvd_right _ _)) a
theorem OQ{n d:Int}{x y g:Nat}(c:n.natAbs=x*g)(a:d.natAbs=y*g):(if (decide (n < 0) !=decide (d < 0))=true then -(x:Int) else (x:Int))*d=n*(y:Int):=by
 have e:((n.natAbs:Nat):Int)=(x:Int)*g:=by rw[c];push_cast;rfl
 have f:((d.natAbs:Nat):Int)=(y:Int)*g:=by rw[a];push_cast;rfl
 by_cases h1:n < 0
 ·have h3:((n.natAbs:Nat):Int)= -n:=by omega
  by_cases h2:d < 0
  ·have b:((d.natAbs:Nat):Int)= -d:=by omega
   rw[yq (by simp[h1,h2])]
   grind
  ·have b:((d.natAbs:Nat):Int)=d:=by omega
   rw[yw (by simp[h1,h2])]
   grind
 ·have h3:((n.natAbs:Nat):Int)=n:=by omega
  by_cases h2:d < 0
  ·have b:((d.natAbs:Nat):Int)= -d:=by omega
   rw[yw (by simp[h1,h2])]
   grind
  ·have b:((d.natAbs:Nat):Int)=d:=by omega
   rw[yq (by simp[h1,h2])]
   grind
theorem Lj{n d:Int}(h:(C8 n d).2=0):Ba (C8 n d).1=true∧(C8 n d).1.n*d=n*(C8 n d).1.d∧d≠0:=by
 have hd:d≠0:=by
  intro e
  unfold C8 at h
  rw[yw e] at h
  cases h
 obtain ⟨g,x,y,m,c,a,f,l,j,i⟩:=Fy (n:=n) hd
 unfold C8 at h ⊢
 rw[yq hd,j,i] at h ⊢
 have b:¬ BR < max (x:Int) (y:Int):=by
  intro k
  rw[yw k] at h
  cases h
 rw[yq b]
 refine ⟨?_,?_,hd⟩
 ·rw[Et]
  simp only
  refine ⟨by omega,by omega,?_,?_,?_⟩
  ·split<;>omega
  ·split<;>(unfold BR at*;omega)
  ·rw[show ((y:Int)).natAbs=y by omega,show (if (decide (n < 0) !=decide (d < 0))=true then -(x:Int) else (x:Int)).natAbs=x by split<;>omega]
   exact f
 ·exact OQ c a
theorem Vo{n d:Int}{w:Rt}(hd:d≠0)(i:Ba w=true)(h:n*w.d=w.n*d):C8 n d=(w,0):=by
 obtain ⟨w1,w2,r,w4,o⟩:=(Et w).1 i
 obtain ⟨g,x,y,l,e,a,m,k,j,f⟩:=Fy (n:=n) hd
 have p:x*w.d.natAbs=w.n.natAbs*y:=by
  have h2:=yD Int.natAbs h
  rw[Int.natAbs_mul,Int.natAbs_mul,e,a] at h2
  have h3:(x*w.d.natAbs)*g=(w.n.natAbs*y)*g:=by grind
  exact Nat.eq_of_mul_eq_mul_right l h3
 obtain ⟨q,s⟩:=Qw m o k (by omega) p
 unfold C8
 rw[yq hd,j,f,yq (by unfold BR at*;omega)]
 have hs:=OQ e a
 have c:(if (decide (n < 0) !=decide (d < 0))=true then -(x:Int) else (x:Int))*d=w.n*d:=by
  rw[hs,<-h]
  congr 1
  omega
 have b:=xA hd c
 rw[b]
 have:(y:Int)=w.d:=by omega
 rw[this]
theorem U3{n d:Int}(hd:d≠0):(C8 n d).2=0∨(C8 n d).2=2:=by
 unfold C8
 rw[yq hd]
 split
 ·exact .inr rfl
 ·exact .inl rfl
def Ec(a b:Nat):List Nat:=
 if a=0 then [] else if _h:b=0 then [a,0] else a::(if a % b=0 then [b] else Ec b (a % b))
 termination_by b
 decreasing_by exact Nat.mod_lt _ (Nat.pos_of_ne_zero (by assumption))
def Iu(d:Nat):List Nat->Nat
 |[]=>d
 |x::r=>Iu x r
theorem OR{l:List Nat}(h:l≠ [])(d e:Nat):Iu d l=Iu e l:=by
 cases l with
 |nil=>exact absurd rfl h
 |cons x r=>rfl
theorem RH{a b:Nat}(h:a≠0):Ec a b≠ []:=by
 rw[Ec,yq h]
 split<;>simp
theorem U4:∀(b a:Nat),b≠0->Iu b (Ec a b)=Nat.gcd a b:=by
 intro b
 induction b using Nat.strongRecOn with
 |_ b ih=>
  intro a hb
  rw[Ec]
  by_cases d:a=0
  ·rw[yw d,d,Nat.gcd_zero_left];rfl
  ·rw[yq d,dif_neg hb]
   by_cases c:a % b=0
   ·rw[yw c]
    show b=Nat.gcd a b
    exact (Nat.gcd_eq_right (Nat.dvd_of_mod_eq_zero c)).symm
   ·rw[yq c]
    show Iu a (Ec b (a % b))=Nat.gcd a b
    rw[OR (RH hb) a (a % b),ih (a % b) (Nat.mod_lt _ (Nat.pos_of_ne_zero hb)) b c,Nat.gcd_comm a b,Nat.gcd_rec b a,Nat.gcd_comm]
mutual
def Ua(k:Nat):Ex->Prop
 |.mk op _ _ _ ri args=>(op=2->0<=ri∧ri < (k:Int))∧RI k args
def RI(k:Nat):List Ex->Prop
 |[]=>True
 |e::r=>Ua k e∧RI k r
end
theorem I9(a:List Kn)(l:Nat)(n u:Int)(rn:ByteArray)(ri:Int)(args:List Ex):F0 a l (.mk 2 n u rn ri args)=if args.length=0∧n=0∧u=0 then Hg a rn ri else (Fx,false):=by
 unfold F0
 rfl
theorem J6(a:List Kn)(l:Nat){op:Int}(h1:op≠1)(h2:op≠2)(n u:Int)(rn:ByteArray)(ri:Int)(x y:Ex):F0 a (l+1) (.mk op n u rn ri [x,y])=if Qv op n u rn ri=true then SB op (F0 a l x) (F0 a l y) else (Fx,false):=by
 conv=>lhs;unfold F0
 rw[yq h1,yq h2]
theorem FI(a:List Kn)(l:Nat){op:Int}(h1:op≠1)(h2:op≠2)(n u:Int)(rn:ByteArray)(ri:Int)(args:List Ex)(h:l=0∨args.length≠2):F0 a l (.mk op n u rn ri args)=(Fx,false):=by
 conv=>lhs;unfold F0
 rw[yq h1,yq h2]
 match l,args,h with
 |0,_,_=>rfl
 |l+1,[],_=>rfl
 |l+1,[x],_=>rfl
 |l+1,[x,y],h=>rcases h with h|h<;>simp at h
 |l+1,x::y::z::r,_=>rfl
theorem Ia:∀(ds:List (ByteArray × Ex)) (l:List Kn),(Am l ds).length=l.length+ds.length
 |[],l=>by rw[Am];simp
 |d::r,l=>by rw[Am,Ia r];simp;omega
section
variable{lets:List (ByteArray × Ex)}(hr:∀(i:Nat) d,lets[i]?=some d->Ua i d.2)
include hr
end
end Go.Proofs.YtjofgpfocadomaaGreatDoor
namespace Go.Proofs.YtjofgpfocadomaaGreatDoor
open Go
theorem QC{P:Program}{o:Oper}{a:Act}{w:World}{K:Act->World->Prop}{Q:QT}{l n:Nat}(hd:∀c,o.op≠.defer c)(h:Oper.wp P o a w K Q):Oper.wpIn (Fence.wide.inRound l) n P o a w K Q:=by
 refine ⟨fun _ _=>trivial,?_⟩
 rw[Fence.inRound_round,zG l a.eval o hd]
 unfold Oper.wp at h
 generalize (execOp a.eval o).run P w=r at h ⊢
 cases r with
 |ok x w'=>
  cases x with
  |value v=>exact h
  |skip=>exact h
  |defer d=>exact h
  |enter f args=>exact ⟨fun h=>(by cases h),yY.2 h⟩
  |row r args=>exact ⟨fun h=>(by cases h),fun c cs _=>let ⟨v,w2,q,s⟩:=h c cs;⟨v,w2,q,stepsIn_wide.2 s⟩⟩
  |_=>exact h.elim
 |halt x w'=>cases x<;>exact h
def Wl(ops:Array Oper):Bool:=ops.all fun o=>match o.op with
 |.defer _=>false
 |_=>true
section
variable{F:Fence}{n:Nat}{P:Program}{ops:Array Oper}{Q:QT}
theorem P2{B:Act}{m:Array Bool->Array Value->World->Prop}{x:Nat->Value->World->Prop}{I:Nat->World->World->Prop}(A:FX ops=true)(D:He B.tmps.size ops=true)
 (C:∀i j v w w',j≠i->(∀f,Lh ops f j i=false)->I i w w'->x j v w->x j v w')
 (u:∀i b a w,Jy ops B m x b a w->i∈Region.ready .any ops b->∀o,ops[i]?=some o->wpOpIn F n P ops Q i (fun H w'=>∃v,H=a.put o.dst v∧m (b.setIfInBounds i true) (a.put o.dst v).tmps w'∧I i w w'∧x i v w') a w)
 (q:∀b a w,(∀i,i < ops.size->b.getD i false=true)->Jy ops B m x b a w->Q .normal a w):
  ∀(fuel:Nat) (b:Array Bool) (a:Act) (w:World),(∀i,i < ops.size->b.getD i false=true)∨((List.range ops.size).filter fun i=>!b.getD i false).length<=fuel->Jy ops B m x b a w->wpAnyIn F n P .any ops Q fuel b a w:=by
 intro fuel
 induction fuel with
 |zero=>
  intro b a w t hM
  have s:∀i,i < ops.size->b.getD i false=true:=by
   rcases t with t|t
   ·exact t
   ·intro i hi
    have h0:=zv.1 (Nat.le_zero.1 t)
    have:=List.filter_eq_nil_iff.1 h0 i (zj.2 hi)
    simpa using this
  refine ⟨?_,q _ _ _ s hM⟩
  cases hr:Region.ready .any ops b with
  |nil=>rfl
  |cons i r=>
   exfalso
   have hi:i∈Region.ready .any ops b:=by rw[hr];simp
   obtain ⟨c,o,y,_⟩:=xE.1 hi
   have d:=(yd.1 y).1
   have:=s i d
   have k:i < b.size:=by rw[hM.size];exact d
   simp[k] at c this
   rw[this] at c;cases c
 |succ fuel ih=>
  intro b a w t hM
  refine ⟨fun hr=>q _ _ _ (Li A hM.size hr) hM,fun i hi=>?_⟩
  obtain ⟨c,o,y,_⟩:=xE.1 hi
  have d:=(yd.1 y).1
  have k:i < b.size:=by rw[hM.size];exact d
  have g:b.getD i false=false:=by simp[k] at c ⊢;exact c
  refine wpOpIn_mono (fun H w' J=>?_) (u i b a w hM hi o y)
  obtain ⟨v,rfl,K,E,L⟩:=J
  refine ih _ _ _ (.inr ?_) (hM.next A D C hi y K E L)
  have M:=t.resolve_left (fun h=>by rw[h i d] at g;cases g)
  have z:((List.range ops.size).filter fun j=>!(b.setIfInBounds i true).getD j false)=((List.range ops.size).filter fun j=>!b.getD j false).filter fun j=>decide (j≠i):=by
   rw[List.filter_filter]
   refine List.filter_congr fun j _=>?_
   by_cases e:i=j
   ·subst e;simp[k]
   ·rw[xp false e];simp[xd e]
  rw[z]
  have G:=(List.length_filter_lt_length_iff_exists (p:=fun j=>decide (j≠i)) (l:=(List.range ops.size).filter fun j=>!b.getD j false)).2 ⟨i,List.mem_filter.2 ⟨zj.2 d,by rw[g];rfl⟩,by simp⟩
  omega
theorem Kl{id:Nat}{h:Act}{s:World}(x:P.follows .mixedOrders=true)(d:Array Bool->Array Value->World->Prop)(l:Nat->Value->World->Prop)(t:Nat->World->World->Prop)(r:FX ops=true)(q:He h.tmps.size ops=true)
 (p:∀i j v w w',j≠i->(∀f,Lh ops f j i=false)->t i w w'->l j v w->l j v w')(h0:d (Array.replicate ops.size false) h.tmps s.drew)
 (g:∀i b a w,Jy ops h d l b a w->i∈Region.ready .any ops b->∀o,ops[i]?=some o->wpOpIn F n P ops Q i (fun u w'=>∃v,u=a.put o.dst v∧d (b.setIfInBounds i true) (a.put o.dst v).tmps w'∧t i w w'∧l i v w') a w)
 (k:∀b a w,(∀i,i < ops.size->b.getD i false=true)->Jy ops h d l b a w->Q .normal a w):(Code.region id ops true).wpIn F n P Q h s:=by
 refine wpIn_region_any x ?_
 have e:∀i,(Array.replicate ops.size false).getD i false=false:=fun i=>by
  simp[Array.getElem?_replicate];split<;>rfl
 refine P2 r q p g k ops.size _ h _ (.inr ?_) ⟨by simp,fun m c=>?_,h0,rfl,rfl,fun m c=>?_,fun _ _=>rfl⟩
 ·exact yu (List.length_filter_le _ _) (by simp)
 ·rw[e] at c;cases c
 ·rw[e] at c;cases c
end
section
variable{n:Nat}{P:Program}{ops:Array Oper}{Q:QT}
theorem Gk{id l:Nat}{p:Act}{x:World}(B:P.follows .mixedOrders=true)(d:Array Bool->Array Value->World->Prop)(k:Nat->Value->World->Prop)(s:Nat->World->World->Prop)(u:FX ops=true)(t:He p.tmps.size ops=true)
 (g:Nz ops=true)(e:Wl ops=true)(r:∀i j v w w',j≠i->(∀f,Lh ops f j i=false)->s i w w'->k j v w->k j v w')(h0:d (Array.replicate ops.size false) p.tmps x.drew)
 (h:∀i b a w,Jy ops p d k b a w->i∈Region.ready .any ops b->∀o,ops[i]?=some o->o.wp P a w (TZ (d (b.setIfInBounds i true)) (s i) (k i) o.dst a w) Q)
 (m:∀b a w,(∀i,i < ops.size->b.getD i false=true)->Jy ops p d k b a w->Q .normal a w):(Code.region id ops true).wpIn (Fence.wide.inRound l) n P Q p x:=by
 refine Kl B d k s u t r h0 (fun i b a w hM hi o q=>?_) m
 unfold wpOpIn
 rw[q]
 have z:o.guard=none:=by
  unfold Nz at g
  rw[zy] at g
  simpa using g o (xf q)
 have y:Region.wanted o (yielded ops a.tmps)=true:=by simp[Region.wanted,z]
 simp only[y,zU]
 refine QC (fun c A=>?_) (h i b a w hM hi o q)
 unfold Wl at e
 rw[zy] at e
 have h2:=e o (xf q)
 rw[A] at h2
 cases h2
end
end Go.Proofs.YtjofgpfocadomaaGreatDoor
namespace Go.Proofs.YtjofgpfocadomaaGreatDoor
open Go.RowKit
section
variable{P:Program}{ops:Array Oper}{rest:List Oper}{o:Oper}{a:Act}{w:World}{Q:QT}
theorem LA(b:o.guard=none)(ty:TypeId)(x:Operand)(c:o.op=.box ty x)(cs:Array Value)(e:a.eval x=.agg cs)
 (h:wpList P ops Q rest (a.put o.dst (.pointer (some ⟨w.heap.size,0,none⟩))) (w.alloc (.cells cs ty))):wpList P ops Q (o::rest) a w:=
 zB b fun K d=>by
  unfold Oper.wp execOp
  simp only[c,e,Instr.box,newVar,newRow,Value.cells,xj,run_newObj_alloc,Sem.run_pure,xQ]
  exact d _ _ h
theorem DH(g:o.guard=none)(t e:TypeId)(x:Operand)(j:o.op=.buildSlice t 1 #[(0,x)])(cs:LV)(l:a.eval x=.agg cs.toArray)
 (n:Nat)(k:P.underlying t=some (.slice e))(hi:((P.info? e).bind fun i=>i.zero.map fun z=>(i.size,z.cells.size))=some (n,n))(p:cs.length=n)(c:0 < n)(d:n<=1000)
 (h:wpList P ops Q rest (a.put o.dst (.slice (some ⟨w.heap.size,0,none⟩) 1 1)) (w.alloc (.cells cs.toArray e))):wpList P ops Q (o::rest) a w:=by
 cases b:P.info? e with
 |none=>simp[b] at hi
 |some ie=>
  cases f:ie.zero with
  |none=>simp[b,f] at hi
  |some z=>
   simp only[b,f,xi,xx,yZ,zq] at hi
   obtain ⟨h1,h2⟩:=hi
   refine wpList_buildSlice g t e 1 _ j _ ie z k b f (by rw[h1];omega) (by rw[h1];omega) ?_ h
   have hs:((Array.range (1*ie.size)).map (z.cells[· % z.cells.size]!)).size=1*n:=by simp[h1]
   rw[h1] at hs ⊢
   generalize (Array.range (1*n)).map (z.cells[· % z.cells.size]!)=m at hs ⊢
   have:=Great.fill_whole (s:=n) c [.agg cs.toArray] m (by simp[Value.cells,p]) (by rw[hs];rfl)
   simp only[xV,List.zipIdx_nil,zu,zN,zh,zx,yU,Value.cells] at this
   simpa[l] using this
theorem Iw(g:o.guard=none)(t e:TypeId)(x y:Operand)(k:o.op=.buildSlice t 2 #[(0,x),(1,y)])(c0 c1:LV)(m:a.eval x=.agg c0.toArray)(q:a.eval y=.agg c1.toArray)
 (n:Nat)(l:P.underlying t=some (.slice e))(hi:((P.info? e).bind fun i=>i.zero.map fun z=>(i.size,z.cells.size))=some (n,n))(r:c0.length=n)(j:c1.length=n)(c:0 < n)(d:n<=1000)
 (h:wpList P ops Q rest (a.put o.dst (.slice (some ⟨w.heap.size,0,none⟩) 2 2)) (w.alloc (.cells (c0++c1).toArray e))):wpList P ops Q (o::rest) a w:=by
 cases b:P.info? e with
 |none=>simp[b] at hi
 |some ie=>
  cases f:ie.zero with
  |none=>simp[b,f] at hi
  |some z=>
   simp only[b,f,xi,xx,yZ,zq] at hi
   obtain ⟨h1,h2⟩:=hi
   refine wpList_buildSlice g t e 2 _ k _ ie z l b f (by rw[h1];omega) (by rw[h1];omega) ?_ h
   have hs:((Array.range (2*ie.size)).map (z.cells[· % z.cells.size]!)).size=2*n:=by simp[h1]
   rw[h1] at hs ⊢
   generalize (Array.range (2*n)).map (z.cells[· % z.cells.size]!)=p at hs ⊢
   have:=Great.fill_whole (s:=n) c [.agg c0.toArray,.agg c1.toArray] p (by simp[Value.cells,r,j]) (by rw[hs];rfl)
   simp only[xV,List.zipIdx_nil,zu,zN,zh,zx,yU,Value.cells] at this
   simpa[m,q] using this
end
theorem Mo{v:Value}(a:v.cells=#[v])(ty:TypeId)(p:Addr):storeVar ty p v=storeVar ty p (.agg #[v]):=by
 unfold storeVar
 rw[a]
 rfl
theorem GR{P:Program}{ops:Array Oper}{rest:List Oper}{op:Oper}{a:Act}{w:World}{Q:QT}(c:op.guard=none)(ty:TypeId)(x y:Operand)(d:op.op=.store ty x y)
 (b o:Nat)(v:Value)(f:a.eval x=.pointer (some ⟨b,o,none⟩))(i:a.eval y=v)(g:v.cells=#[v])
 (j:w.there b o 1)(hi:(P.info? ty).map (·.size)=some 1)(h1:v.oneCell'=true)
 (h:wpList P ops Q rest (a.put op.dst undef) (w.setCells b o [v])):wpList P ops Q (op::rest) a w:=
 zB c fun K e=>by
  unfold Oper.wp execOp
  simp only[d,f,i,Instr.storeAt,Instr.sureAddr,xj,Sem.run_pure,xQ,Mo g,run_storeVar_mid w b o ty #[v] j hi (by simpa using h1)]
  exact e _ _ h
end Go.Proofs.YtjofgpfocadomaaGreatDoor
namespace Go.Proofs.YtjofgpfocadomaaGreatDoor
open Go.RowKit Go.ChangeShapes Go.WideShapes Go.Deep
theorem S2{α:Type}{P:Nat->α->Prop}:∀n:Nat,(∀i,i < n->∃t,P i t)->∃a:List α,a.length=n∧∀i (h:i < a.length),P i a[i]
 |0,_=>⟨[],rfl,fun i h=>by simp at h⟩
 |n+1,h=>by
  obtain ⟨a,c,d⟩:=S2 n (fun i hi=>h i (by omega))
  obtain ⟨t,f⟩:=h n (by omega)
  refine ⟨a++[t],by simp[c],fun i hi=>?_⟩
  by_cases b:i < a.length
  ·rw[xG b];exact d i b
  ·have e:i=a.length:=by simp at hi;omega
   subst e
   simp only[xF (yf _),Nat.sub_self,List.getElem_cons_zero]
   rw[c];exact f
theorem E8{H:Type}{P:Program}{e:TypeId}{d:DataW H}{n:Nat}:∀ {l:List (DataW H)},d∈l->n∈d.weights P e->n∈DataW.weightsAll P e l
 |[],h,_=>by simp at h
 |x::r,h,hn=>by
  simp only[DataW.weightsAll,yv]
  rcases yO.1 h with rfl|h
  ·exact .inl hn
  ·exact .inr (E8 h hn)
theorem Jg{w:World}{a:Addr}{v:Value}(h:w.cell? a=some v):a.block < w.heap.size:=by
 rcases zO a.block w.heap.size with b|b
 ·exact b
 ·simp[World.cell?,xz b] at h
theorem A7{α:Type}(l:List α)(o n:Nat):l.drop o=(l.drop o).take n++l.drop (o+n):=by
 rw[<-List.drop_drop];exact (zV _ _).symm
theorem CC:Tryz.prog.cellsOf 9=1:=by kernel_rfl
theorem If:Tryz.prog.cellsOf 3=1:=by kernel_rfl
theorem R4:Tryz.prog.cellsOf 4=1:=by kernel_rfl
theorem BD:Tryz.prog.cellsOf 23=2:=by kernel_rfl
theorem E9:Tryz.prog.cellsOf 64=12:=by kernel_rfl
theorem AB:Tryz.prog.cellsOf 26=6:=by kernel_rfl
theorem NW:Tryz.prog.cellsOf 35=26:=by kernel_rfl
theorem Mr:Tryz.prog.cellsOf 50=7:=by kernel_rfl
theorem LX:Tryz.prog.cellsOf 92=7:=by kernel_rfl
theorem Kp:Tryz.prog.cellsOf 66=51:=by kernel_rfl
theorem LY:Tryz.prog.cellsOf 94=12:=by kernel_rfl
theorem LZ:Tryz.prog.cellsOf 158=8:=by kernel_rfl
theorem M0:Tryz.prog.cellsOf 109=23:=by kernel_rfl
theorem Kq:Tryz.prog.cellsOf 131=37:=by kernel_rfl
theorem M1:Tryz.prog.cellsOf 135=11:=by kernel_rfl
theorem Ij:Tryz.prog.cellsOf 27=1:=by kernel_rfl
theorem Ho:Tryz.prog.cellsOf 28=1:=by kernel_rfl
theorem GX:Tryz.prog.cellsOf 29=1:=by kernel_rfl
theorem Hp:Tryz.prog.cellsOf 30=1:=by kernel_rfl
theorem Hq:Tryz.prog.cellsOf 107=1:=by kernel_rfl
theorem Hr:Tryz.prog.cellsOf 31=1:=by kernel_rfl
theorem GY:Tryz.prog.cellsOf 32=1:=by kernel_rfl
theorem Hs:Tryz.prog.cellsOf 33=1:=by kernel_rfl
theorem R5:0 < Tryz.prog.bytesOf 26:=yR (by kernel_rfl)
theorem T8:0 < Tryz.prog.bytesOf 50:=yR (by kernel_rfl)
theorem R6:0 < Tryz.prog.bytesOf 92:=yR (by kernel_rfl)
theorem Px:0 < Tryz.prog.bytesOf 66:=yR (by kernel_rfl)
theorem R7:0 < Tryz.prog.bytesOf 94:=yR (by kernel_rfl)
theorem R9:0 < Tryz.prog.bytesOf 158:=yR (by kernel_rfl)
theorem T9:0 < Tryz.prog.bytesOf 109:=yR (by kernel_rfl)
theorem Py:0 < Tryz.prog.bytesOf 131:=yR (by kernel_rfl)
theorem Ra:0 < Tryz.prog.bytesOf 135:=yR (by kernel_rfl)
mutual
def Ft:Ex->Prop
 |.mk _ _ _ _ _ args=>args.length*72<=140737488355328∧Ht args
def Ht:List Ex->Prop
 |[]=>True
 |e::r=>Ft e∧Ht r
end
theorem Pz:∀ {l:List Ex},(∀i (h:i < l.length),Ft l[i])->Ht l
 |[],_=>by rw[Ht];trivial
 |e::r,h=>by
  rw[Ht]
  exact ⟨h 0 (by simp),Pz fun i hi=>h (i+1) (by simpa using hi)⟩
theorem Nd:∀ {l:List Ex},Ht l->∀i (h:i < l.length),Ft l[i]
 |e::r,h,0,_=>by rw[Ht] at h;exact h.1
 |e::r,h,i+1,hi=>by rw[Ht] at h;simpa using Nd h.2 i (by simpa using hi)
theorem VT:Tryz.prog.bytesOf 26=72:=by kernel_rfl
section
variable{H:Type}{enc:TypeId × Value->H}{W:World}
def Wt(t:TypeId)(d:DataW H):Prop:=∀k∈d.weights Tryz.prog t,k<=reachBytes
def Kr(W:World)(b:Nat):Prop:=b < W.heap.size
theorem Ea{α:Type}{t e:TypeId}{sz:Nat}{Pr:LV->α->Prop}(B:Tryz.prog.underlying t=some (.slice e))(w:Tryz.prog.cellsOf e=sz)(G:0 < Tryz.prog.bytesOf e)(I:0 < sz){fuel:Nat}{x0:Value}{d:DataW H}{ps:List MemPlace}
 (R:∀n,n < fuel->∀cs d ps,DataW.trod enc Tryz.prog W 0 (fun _=>true) true n e cs=some (d,ps)->Wt e d->cs.length=sz->∃x,Pr cs x)
 (h:DataW.trod enc Tryz.prog W 0 (fun _=>true) true fuel t [x0]=some (d,ps))(L:Wt t d):∃(hd:Aw) (l:List α),x0=hd.v∧BF (Kr W) W sz Pr hd l∧hd.n<=hd.c∧l.length*Tryz.prog.bytesOf e<=140737488355328:=by
 rcases DataW.trod_slice B h with ⟨hcs,_⟩|⟨a,len,cap,f,rest,n,T,hcs,D,hb,M,hm,O,F,_,_⟩
 ·obtain rfl:x0=.slice none 0 0:=(zT hcs).1
  exact ⟨⟨none,0,0⟩,[],rfl,⟨rfl,by simp,fun i h=>by simp at h⟩,yf _,by simp⟩
 ·obtain rfl:x0=.slice (some a) len cap:=(zT hcs).1
  simp only[zq] at D
  have C:(f.length+rest.length)*Tryz.prog.bytesOf e<=140737488355328:=by
   have h1:=L ((f.length+rest.length)*Tryz.prog.bytesOf e) (by
    rw[D.1,DataW.weights,B]
    simp)
   have h2:reachBytes < 2 ^ 47:=reachBytes_lt
   omega
  have m:len*Tryz.prog.bytesOf e<=140737488355328:=yu (xR _ (by omega)) C
  have Q:len<=140737488355328:=yu (Nat.le_mul_of_pos_right _ G) m
  have o:∀i,i < len->∃q:LV × α,q.1.length=sz∧(∀j,j < sz->W.cell? ((a.add (i*sz)).add j)=q.1[j]?)∧Pr q.1 q.2:=by
   intro i hi
   have h1:=F i hi
   have h2:f[i]?=some (f[i]'(by omega)):=yk _
   rw[h2,w] at h1
   obtain ⟨cs,V,y⟩:=Option.bind_eq_some_iff.1 h1
   obtain ⟨_,u,J⟩:=World.cells?_some V
   obtain ⟨x,z⟩:=R n (by omega) cs _ _ y (fun k S=>L k (by
    rw[D.1,DataW.weights,B]
    exact List.mem_cons_of_mem _ (yv.2 (.inl (E8 (xJ.2 ⟨_,yJ (by omega),rfl⟩) S))))) u
   exact ⟨(cs,x),u,J,z⟩
  by_cases h0:len=0
  ·subst h0
   exact ⟨⟨some a,0,cap⟩,[],rfl,⟨rfl,by simp,fun i h=>by simp at h⟩,M,by simp⟩
  ·obtain ⟨E,K,z⟩:=S2 len o
   obtain ⟨U,l0,c0,_⟩:=o 0 (by omega)
   have s:W.cell? a=some (U.1[0]'(by omega)):=by
    have:=c0 0 I
    rw[yk (by omega)] at this
    simpa[Addr.add] using this
   have g:a.spot=none:=World.cell?_spot s
   have r:a.block < W.heap.size:=Jg s
   obtain ⟨b,p,P⟩:=a
   simp only at g r
   subst g
   refine ⟨⟨some (aV b p),len,cap⟩,E.map (·.2),rfl,⟨by simp[K],by simp[K];omega,fun i hi=>?_⟩,M,by rw[yV,K];exact m⟩
   have A:i < E.length:=by simpa using hi
   obtain ⟨Y,Z,X⟩:=z i A
   refine ⟨b,p,(E[i]).1,rfl,r,Y,fun j v N=>?_,by simpa using X⟩
   have a0:=(yx.1 N).1
   have:=Z j (by omega)
   rw[N] at this
   simpa[zA,zS] using this
theorem PA{a:Option Addr}:∀ {l:List Ex} {k:Nat},(∀i (h:i < l.length),∃b o cs,a=some ⟨b,o,none⟩∧Kr W b∧W.rangeAt b (o+(k+i)*6) cs∧AI (Kr W) W l[i] cs)->Df (Kr W) W a k l
 |[],_,_=>by rw[Df];trivial
 |e::r,k,h=>by
  rw[Df]
  refine ⟨h 0 (by simp),PA fun i hi=>?_⟩
  obtain ⟨b,o,cs,h1,h2,h3,c⟩:=h (i+1) (by simpa using hi)
  exact ⟨b,o,cs,h1,h2,by rw[show k+1+i=k+(i+1) by omega];exact h3,by simpa using c⟩
theorem Eb{fuel:Nat}{cs:LV}{d:DataW H}{ps:List MemPlace}(h:DataW.trod enc Tryz.prog W 0 (fun _=>true) true fuel 9 cs=some (d,ps)):∃s:ByteArray,cs=[.string s]∧s.size<=maxLen:=by
 obtain ⟨s,h1,_,h2⟩:=DataW.trod_string jd h
 exact ⟨s,h1,h2⟩
theorem Fu{fuel:Nat}{cs:LV}{d:DataW H}{ps:List MemPlace}(h:DataW.trod enc Tryz.prog W 0 (fun _=>true) true fuel 3 cs=some (d,ps)):∃z,cs=[.int .i64 z]:=by
 obtain ⟨z,h1,_⟩:=DataW.trod_int qT h
 exact ⟨z,h1⟩
theorem Ta{fuel:Nat}{cs:LV}{d:DataW H}{ps:List MemPlace}(h:DataW.trod enc Tryz.prog W 0 (fun _=>true) true fuel 4 cs=some (d,ps)):∃z,cs=[.bool z]:=by
 obtain ⟨z,h1,_⟩:=DataW.trod_bool j0 h
 exact ⟨z,h1⟩
theorem DK{fuel:Nat}{cs:LV}{d:DataW H}{ps:List MemPlace}(h:DataW.trod enc Tryz.prog W 0 (fun _=>true) true fuel 23 cs=some (d,ps)):∃r:Rf,cs=AU r∧r.name.size<=maxLen:=by
 obtain ⟨i,n,_,j,a,c,b⟩:=zL Tryz.underlying23 h
 rw[BD] at a
 match cs,a,i,c with
 |[x0,x1],_,[y0,y1],_=>
  have e:=b 0 _ rfl
  have t1:=b 1 _ rfl
  simp only[xY,List.getElem?_cons_succ] at e t1
  obtain ⟨s,f,hs⟩:=Eb e
  obtain ⟨z,g⟩:=Fu t1
  obtain rfl:x0=.string s:=(zT (show [x0]=[_] from f)).1
  obtain rfl:x1=iV z:=(zT (show [x1]=[_] from g)).1
  exact ⟨⟨s,z⟩,rfl,hs⟩
theorem AM:∀(fuel:Nat) (cs:LV) (d:DataW H) (ps:List MemPlace),DataW.trod enc Tryz.prog W 0 (fun _=>true) true fuel 26 cs=some (d,ps)->Wt 26 d->∃e:Ex,AI (Kr W) W e cs∧Ft e:=by
 intro fuel
 induction fuel using Nat.strongRecOn with
 |ind fuel ih=>
  intro cs d ps h s
  obtain ⟨K,n,I,B,p,x,f⟩:=zL qP h
  rw[AB] at p
  simp only[zq] at B
  match cs,p,K,x with
  |[x0,x1,x2,x3,x4,x5],_,[y0,y1,y2,y3,y4],_=>
   have E:=f 0 _ rfl
   have t1:=f 1 _ rfl
   have t2:=f 2 _ rfl
   have t3:=f 3 _ rfl
   have t4:=f 4 _ rfl
   simp only[xY,List.getElem?_cons_succ] at E t1 t2 t3 t4
   obtain ⟨y,F⟩:=Fu E
   obtain ⟨A,J⟩:=Fu t1
   obtain ⟨z,M⟩:=Fu t2
   obtain ⟨r,u,hr⟩:=DK t3
   obtain rfl:x0=iV y:=(zT (show [x0]=[_] from F)).1
   obtain rfl:x1=iV A:=(zT (show [x1]=[_] from J)).1
   obtain rfl:x2=iV z:=(zT (show [x2]=[_] from M)).1
   have u:[x3,x4]=[Value.string r.name,iV r.n]:=u
   obtain ⟨rfl,L⟩:=zT u
   obtain ⟨rfl,_⟩:=zT L
   obtain ⟨hd,l,N,g,_,q⟩:=Ea (x0:=x5) (Pr:=fun cs e=>AI (Kr W) W e cs∧Ft e) qO AB R5 (by decide) (fun m O cs d ps h s _=>ih m (by omega) cs d ps h s) (show DataW.trod enc Tryz.prog W 0 (fun _=>true) true n 24 [x5]=some (y4.1,y4.2) from t4) (fun k G=>s k (by
    rw[B.1,DataW.weights,qP]
    exact yC (j:=4) (t:=24) (d:=y4.1) rfl rfl _ G))
   subst N
   refine ⟨.mk y A z r.name r.n l,?_,?_⟩
   ·rw[AI]
    refine ⟨hd.a,hd.c,by unfold Aw.v;rw[g.1],g.2.1,hr,PA fun i hi=>?_⟩
    obtain ⟨b,o,cs,g1,D,_,C,w⟩:=g.2.2 i hi
    exact ⟨b,o,cs,g1,D,by rw[yy];exact C,w.1⟩
   ·rw[Ft]
    exact ⟨by rw[VT] at q;exact q,Pz fun i hi=>by
     obtain ⟨b,o,cs,g1,D,_,C,w⟩:=g.2.2 i hi
     exact w.2⟩
theorem PB{fuel:Nat}{cs:LV}{d:DataW H}{ps:List MemPlace}(h:DataW.trod enc Tryz.prog W 0 (fun _=>true) true fuel 64 cs=some (d,ps))(q:Wt 64 d):∃(e f:Ex) (c p:LV),cs=c++p∧AI (Kr W) W e c∧AI (Kr W) W f p:=by
 obtain ⟨v,n,u,l,a,o,b⟩:=DataW.trod_array j7 h
 simp only[zq] at l
 rw[E9] at a
 match v,o with
 |[y0,y1],_=>
  have r:DataW.trod enc Tryz.prog W 0 (fun _=>true) true n 26 ((cs.drop (0*Tryz.prog.cellsOf 26)).take (Tryz.prog.cellsOf 26))=some (y0.1,y0.2):=b 0 (by decide)
  have t1:DataW.trod enc Tryz.prog W 0 (fun _=>true) true n 26 ((cs.drop (1*Tryz.prog.cellsOf 26)).take (Tryz.prog.cellsOf 26))=some (y1.1,y1.2):=b 1 (by decide)
  rw[AB] at r t1
  obtain ⟨e,t,_⟩:=AM n _ _ _ r (fun k j=>q k (by
   rw[l.1,DataW.weights,j7]
   exact E8 (d:=y0.1) (by simp) j))
  obtain ⟨f,s,_⟩:=AM n _ _ _ t1 (fun k j=>q k (by
   rw[l.1,DataW.weights,j7]
   exact E8 (d:=y1.1) (by simp) j))
  refine ⟨e,f,_,_,?_,t,s⟩
  have m:=A7 cs 0 6
  have i:=A7 cs 6 6
  have g:cs.drop 12=[]:=by rw[<-a];exact zJ
  simp only[Nat.reduceAdd,Nat.zero_mul,qo] at m i ⊢
  rw[g,yU] at i
  rw[zZ] at m
  rw[<-i]
  rw[zZ]
  exact m
theorem UL(fuel:Nat)(cs:LV)(d:DataW H)(ps:List MemPlace)(h:DataW.trod enc Tryz.prog W 0 (fun _=>true) true fuel 50 cs=some (d,ps))(v:Wt 50 d)(f:cs.length=7):∃x:F9,H7 (Kr W) W cs x:=by
 obtain ⟨r,n,y,p,_,b,a⟩:=zL j6 h
 simp only[zq] at p
 have b:r.length=2:=b
 match r,b with
 |[y0,y1],_=>
  have m:DataW.trod enc Tryz.prog W 0 (fun _=>true) true n 9 ((cs.drop 0).take (Tryz.prog.cellsOf 9))=some (y0.1,y0.2):=a 0 _ rfl
  rw[CC] at m
  have t1:DataW.trod enc Tryz.prog W 0 (fun _=>true) true n 26 ((cs.drop 1).take (Tryz.prog.cellsOf 26))=some (y1.1,y1.2):=a 1 _ rfl
  rw[AB] at t1
  have hcs:cs=cs.drop 0:=rfl
  have c:=A7 cs 0 1
  obtain ⟨B,i⟩:∃q,q=(cs.drop 0).take 1:=⟨_,rfl⟩
  rw[<-i] at m c
  have g:=A7 cs 1 6
  obtain ⟨o,l⟩:∃q,q=(cs.drop 1).take 6:=⟨_,rfl⟩
  rw[<-l] at t1 g
  have e:cs.drop 7=[]:=by rw[<-f];exact zJ
  simp only[Nat.reduceAdd] at c g
  rw[zZ] at c
  rw[g] at c
  rw[e] at c
  clear hcs
  obtain ⟨z,u,s⟩:=Eb m
  obtain ⟨v1,A,_⟩:=AM n o _ _ t1 (fun k w=>v k (by
   rw[p.1,DataW.weights,j6]
   exact yC (j:=1) (t:=26) (d:=y1.1) rfl rfl _ w))
  exact ⟨⟨z,v1⟩,s,o,by rw[c,u];simp,A⟩
theorem Tc(fuel:Nat)(cs:LV)(d:DataW H)(ps:List MemPlace)(h:DataW.trod enc Tryz.prog W 0 (fun _=>true) true fuel 92 cs=some (d,ps))(v:Wt 92 d)(f:cs.length=7):∃x:DO,Il (Kr W) W cs x:=by
 obtain ⟨r,n,y,p,_,b,a⟩:=zL je h
 simp only[zq] at p
 have b:r.length=2:=b
 match r,b with
 |[y0,y1],_=>
  have m:DataW.trod enc Tryz.prog W 0 (fun _=>true) true n 9 ((cs.drop 0).take (Tryz.prog.cellsOf 9))=some (y0.1,y0.2):=a 0 _ rfl
  rw[CC] at m
  have t1:DataW.trod enc Tryz.prog W 0 (fun _=>true) true n 26 ((cs.drop 1).take (Tryz.prog.cellsOf 26))=some (y1.1,y1.2):=a 1 _ rfl
  rw[AB] at t1
  have hcs:cs=cs.drop 0:=rfl
  have c:=A7 cs 0 1
  obtain ⟨B,i⟩:∃q,q=(cs.drop 0).take 1:=⟨_,rfl⟩
  rw[<-i] at m c
  have g:=A7 cs 1 6
  obtain ⟨o,l⟩:∃q,q=(cs.drop 1).take 6:=⟨_,rfl⟩
  rw[<-l] at t1 g
  have e:cs.drop 7=[]:=by rw[<-f];exact zJ
  simp only[Nat.reduceAdd] at c g
  rw[zZ] at c
  rw[g] at c
  rw[e] at c
  clear hcs
  obtain ⟨z,u,s⟩:=Eb m
  obtain ⟨v1,A,_⟩:=AM n o _ _ t1 (fun k w=>v k (by
   rw[p.1,DataW.weights,je]
   exact yC (j:=1) (t:=26) (d:=y1.1) rfl rfl _ w))
  exact ⟨⟨z,v1⟩,s,o,by rw[c,u];simp,A⟩
theorem Rb(fuel:Nat)(cs:LV)(d:DataW H)(ps:List MemPlace)(h:DataW.trod enc Tryz.prog W 0 (fun _=>true) true fuel 66 cs=some (d,ps))(g:Wt 66 d)(i:cs.length=51):∃x:AE,Fa (Kr W) W cs x:=by
 obtain ⟨L,n,X,f,_,e,a⟩:=zL j8 h
 simp only[zq] at f
 have e:L.length=8:=e
 match L,e with
 |[y0,y1,y2,y3,y4,y5,y6,y7],_=>
  have A:DataW.trod enc Tryz.prog W 0 (fun _=>true) true n 9 ((cs.drop 0).take (Tryz.prog.cellsOf 9))=some (y0.1,y0.2):=a 0 _ rfl
  rw[CC] at A
  have t1:DataW.trod enc Tryz.prog W 0 (fun _=>true) true n 23 ((cs.drop 1).take (Tryz.prog.cellsOf 23))=some (y1.1,y1.2):=a 1 _ rfl
  rw[BD] at t1
  have t2:DataW.trod enc Tryz.prog W 0 (fun _=>true) true n 26 ((cs.drop 3).take (Tryz.prog.cellsOf 26))=some (y2.1,y2.2):=a 2 _ rfl
  rw[AB] at t2
  have t3:DataW.trod enc Tryz.prog W 0 (fun _=>true) true n 26 ((cs.drop 9).take (Tryz.prog.cellsOf 26))=some (y3.1,y3.2):=a 3 _ rfl
  rw[AB] at t3
  have t4:DataW.trod enc Tryz.prog W 0 (fun _=>true) true n 26 ((cs.drop 15).take (Tryz.prog.cellsOf 26))=some (y4.1,y4.2):=a 4 _ rfl
  rw[AB] at t4
  have t5:DataW.trod enc Tryz.prog W 0 (fun _=>true) true n 26 ((cs.drop 21).take (Tryz.prog.cellsOf 26))=some (y5.1,y5.2):=a 5 _ rfl
  rw[AB] at t5
  have t6:DataW.trod enc Tryz.prog W 0 (fun _=>true) true n 64 ((cs.drop 27).take (Tryz.prog.cellsOf 64))=some (y6.1,y6.2):=a 6 _ rfl
  rw[E9] at t6
  have t7:DataW.trod enc Tryz.prog W 0 (fun _=>true) true n 64 ((cs.drop 39).take (Tryz.prog.cellsOf 64))=some (y7.1,y7.2):=a 7 _ rfl
  rw[E9] at t7
  have hcs:cs=cs.drop 0:=rfl
  have b:=A7 cs 0 1
  obtain ⟨q0,p⟩:∃q,q=(cs.drop 0).take 1:=⟨_,rfl⟩
  rw[<-p] at A b
  have B:=A7 cs 1 2
  obtain ⟨q1,E⟩:∃q,q=(cs.drop 1).take 2:=⟨_,rfl⟩
  rw[<-E] at t1 B
  have m:=A7 cs 3 6
  obtain ⟨I,s⟩:∃q,q=(cs.drop 3).take 6:=⟨_,rfl⟩
  rw[<-s] at t2 m
  have C:=A7 cs 9 6
  obtain ⟨G,r⟩:∃q,q=(cs.drop 9).take 6:=⟨_,rfl⟩
  rw[<-r] at t3 C
  have F:=A7 cs 15 6
  obtain ⟨J,u⟩:∃q,q=(cs.drop 15).take 6:=⟨_,rfl⟩
  rw[<-u] at t4 F
  have w:=A7 cs 21 6
  obtain ⟨K,y⟩:∃q,q=(cs.drop 21).take 6:=⟨_,rfl⟩
  rw[<-y] at t5 w
  have o:=A7 cs 27 12
  obtain ⟨q6,D⟩:∃q,q=(cs.drop 27).take 12:=⟨_,rfl⟩
  rw[<-D] at t6 o
  have z:=A7 cs 39 12
  obtain ⟨q7,v⟩:∃q,q=(cs.drop 39).take 12:=⟨_,rfl⟩
  rw[<-v] at t7 z
  have l:cs.drop 51=[]:=by rw[<-i];exact zJ
  simp only[Nat.reduceAdd] at b B m C F w o z
  rw[zZ] at b
  rw[B] at b
  rw[m] at b
  rw[C] at b
  rw[F] at b
  rw[w] at b
  rw[o] at b
  rw[z] at b
  rw[l] at b
  clear hcs
  obtain ⟨v0,S,z0⟩:=Eb A
  obtain ⟨v1,U,z1⟩:=DK t1
  obtain ⟨v2,e2,_⟩:=AM n I _ _ t2 (fun k c=>g k (by
   rw[f.1,DataW.weights,j8]
   exact yC (j:=2) (t:=26) (d:=y2.1) rfl rfl _ c))
  obtain ⟨v3,T,_⟩:=AM n G _ _ t3 (fun k c=>g k (by
   rw[f.1,DataW.weights,j8]
   exact yC (j:=3) (t:=26) (d:=y3.1) rfl rfl _ c))
  obtain ⟨v4,Z,_⟩:=AM n J _ _ t4 (fun k c=>g k (by
   rw[f.1,DataW.weights,j8]
   exact yC (j:=4) (t:=26) (d:=y4.1) rfl rfl _ c))
  obtain ⟨v5,e5,_⟩:=AM n K _ _ t5 (fun k c=>g k (by
   rw[f.1,DataW.weights,j8]
   exact yC (j:=5) (t:=26) (d:=y5.1) rfl rfl _ c))
  obtain ⟨v6,Q,c6,Y,e6,N,h6⟩:=PB t6 (fun k c=>g k (by
   rw[f.1,DataW.weights,j8]
   exact yC (j:=6) (t:=64) (d:=y6.1) rfl rfl _ c))
  obtain ⟨M,R,c7,r7,O,P,V⟩:=PB t7 (fun k c=>g k (by
   rw[f.1,DataW.weights,j8]
   exact yC (j:=7) (t:=64) (d:=y7.1) rfl rfl _ c))
  exact ⟨⟨v0,v1,v2,v3,v4,v5,v6,Q,M,R⟩,z0,z1,I,G,J,K,c6,Y,c7,r7,by rw[b,S,U,e6,O];simp,e2,T,Z,e5,N,h6,P,V⟩
theorem Td(fuel:Nat)(cs:LV)(d:DataW H)(ps:List MemPlace)(h:DataW.trod enc Tryz.prog W 0 (fun _=>true) true fuel 94 cs=some (d,ps))(C:Wt 94 d)(f:cs.length=12):∃x:CY,Im (Kr W) W cs x:=by
 obtain ⟨z,n,E,y,_,c,a⟩:=zL jf h
 simp only[zq] at y
 have c:z.length=5:=c
 match z,c with
 |[y0,y1,y2,y3,y4],_=>
  have v:DataW.trod enc Tryz.prog W 0 (fun _=>true) true n 9 ((cs.drop 0).take (Tryz.prog.cellsOf 9))=some (y0.1,y0.2):=a 0 _ rfl
  rw[CC] at v
  have t1:DataW.trod enc Tryz.prog W 0 (fun _=>true) true n 23 ((cs.drop 1).take (Tryz.prog.cellsOf 23))=some (y1.1,y1.2):=a 1 _ rfl
  rw[BD] at t1
  have t2:DataW.trod enc Tryz.prog W 0 (fun _=>true) true n 4 ((cs.drop 3).take (Tryz.prog.cellsOf 4))=some (y2.1,y2.2):=a 2 _ rfl
  rw[R4] at t2
  have t3:DataW.trod enc Tryz.prog W 0 (fun _=>true) true n 26 ((cs.drop 4).take (Tryz.prog.cellsOf 26))=some (y3.1,y3.2):=a 3 _ rfl
  rw[AB] at t3
  have t4:DataW.trod enc Tryz.prog W 0 (fun _=>true) true n 23 ((cs.drop 10).take (Tryz.prog.cellsOf 23))=some (y4.1,y4.2):=a 4 _ rfl
  rw[BD] at t4
  have hcs:cs=cs.drop 0:=rfl
  have b:=A7 cs 0 1
  obtain ⟨M,l⟩:∃q,q=(cs.drop 0).take 1:=⟨_,rfl⟩
  rw[<-l] at v b
  have i:=A7 cs 1 2
  obtain ⟨N,r⟩:∃q,q=(cs.drop 1).take 2:=⟨_,rfl⟩
  rw[<-r] at t1 i
  have o:=A7 cs 3 1
  obtain ⟨P,u⟩:∃q,q=(cs.drop 3).take 1:=⟨_,rfl⟩
  rw[<-u] at t2 o
  have p:=A7 cs 4 6
  obtain ⟨w,m⟩:∃q,q=(cs.drop 4).take 6:=⟨_,rfl⟩
  rw[<-m] at t3 p
  have s:=A7 cs 10 2
  obtain ⟨O,g⟩:∃q,q=(cs.drop 10).take 2:=⟨_,rfl⟩
  rw[<-g] at t4 s
  have e:cs.drop 12=[]:=by rw[<-f];exact zJ
  simp only[Nat.reduceAdd] at b i o p s
  rw[zZ] at b
  rw[i] at b
  rw[o] at b
  rw[p] at b
  rw[s] at b
  rw[e] at b
  clear hcs
  obtain ⟨I,B,A⟩:=Eb v
  obtain ⟨v1,J,F⟩:=DK t1
  obtain ⟨v2,L⟩:=Ta t2
  obtain ⟨v3,G,_⟩:=AM n w _ _ t3 (fun k D=>C k (by
   rw[y.1,DataW.weights,jf]
   exact yC (j:=3) (t:=26) (d:=y3.1) rfl rfl _ D))
  obtain ⟨v4,K,z4⟩:=DK t4
  exact ⟨⟨I,v1,v2,v3,v4⟩,A,F,z4,w,by rw[b,B,J,L,K];simp,G⟩
theorem Te(fuel:Nat)(cs:LV)(d:DataW H)(ps:List MemPlace)(h:DataW.trod enc Tryz.prog W 0 (fun _=>true) true fuel 158 cs=some (d,ps))(v:Wt 158 d)(f:cs.length=8):∃x:Cs,FA (Kr W) W cs x:=by
 obtain ⟨r,n,y,p,_,b,a⟩:=zL qL h
 simp only[zq] at p
 have b:r.length=2:=b
 match r,b with
 |[y0,y1],_=>
  have m:DataW.trod enc Tryz.prog W 0 (fun _=>true) true n 23 ((cs.drop 0).take (Tryz.prog.cellsOf 23))=some (y0.1,y0.2):=a 0 _ rfl
  rw[BD] at m
  have t1:DataW.trod enc Tryz.prog W 0 (fun _=>true) true n 26 ((cs.drop 2).take (Tryz.prog.cellsOf 26))=some (y1.1,y1.2):=a 1 _ rfl
  rw[AB] at t1
  have hcs:cs=cs.drop 0:=rfl
  have c:=A7 cs 0 2
  obtain ⟨B,i⟩:∃q,q=(cs.drop 0).take 2:=⟨_,rfl⟩
  rw[<-i] at m c
  have g:=A7 cs 2 6
  obtain ⟨o,l⟩:∃q,q=(cs.drop 2).take 6:=⟨_,rfl⟩
  rw[<-l] at t1 g
  have e:cs.drop 8=[]:=by rw[<-f];exact zJ
  simp only[Nat.reduceAdd] at c g
  rw[zZ] at c
  rw[g] at c
  rw[e] at c
  clear hcs
  obtain ⟨z,u,s⟩:=DK m
  obtain ⟨v1,A,_⟩:=AM n o _ _ t1 (fun k w=>v k (by
   rw[p.1,DataW.weights,qL]
   exact yC (j:=1) (t:=26) (d:=y1.1) rfl rfl _ w))
  exact ⟨⟨z,v1⟩,s,o,by rw[c,u];simp,A⟩
theorem UM(fuel:Nat)(cs:LV)(d:DataW H)(ps:List MemPlace)(h:DataW.trod enc Tryz.prog W 0 (fun _=>true) true fuel 109 cs=some (d,ps))(i:Wt 109 d)(c:cs.length=23):∃x:BG × Aw,H8 (Kr W) W x.2 cs x.1:=by
 obtain ⟨M,n,T,o,_,g,a⟩:=zL qH h
 simp only[zq] at o
 have g:M.length=7:=g
 match M,g with
 |[y0,y1,y2,y3,y4,y5,y6],_=>
  have I:DataW.trod enc Tryz.prog W 0 (fun _=>true) true n 9 ((cs.drop 0).take (Tryz.prog.cellsOf 9))=some (y0.1,y0.2):=a 0 _ rfl
  rw[CC] at I
  have t1:DataW.trod enc Tryz.prog W 0 (fun _=>true) true n 23 ((cs.drop 1).take (Tryz.prog.cellsOf 23))=some (y1.1,y1.2):=a 1 _ rfl
  rw[BD] at t1
  have t2:DataW.trod enc Tryz.prog W 0 (fun _=>true) true n 3 ((cs.drop 3).take (Tryz.prog.cellsOf 3))=some (y2.1,y2.2):=a 2 _ rfl
  rw[If] at t2
  have t3:DataW.trod enc Tryz.prog W 0 (fun _=>true) true n 26 ((cs.drop 4).take (Tryz.prog.cellsOf 26))=some (y3.1,y3.2):=a 3 _ rfl
  rw[AB] at t3
  have t4:DataW.trod enc Tryz.prog W 0 (fun _=>true) true n 26 ((cs.drop 10).take (Tryz.prog.cellsOf 26))=some (y4.1,y4.2):=a 4 _ rfl
  rw[AB] at t4
  have t5:DataW.trod enc Tryz.prog W 0 (fun _=>true) true n 26 ((cs.drop 16).take (Tryz.prog.cellsOf 26))=some (y5.1,y5.2):=a 5 _ rfl
  rw[AB] at t5
  have t6:DataW.trod enc Tryz.prog W 0 (fun _=>true) true n 107 ((cs.drop 22).take (Tryz.prog.cellsOf 107))=some (y6.1,y6.2):=a 6 _ rfl
  rw[Hq] at t6
  have hcs:cs=cs.drop 0:=rfl
  have b:=A7 cs 0 1
  obtain ⟨q0,w⟩:∃q,q=(cs.drop 0).take 1:=⟨_,rfl⟩
  rw[<-w] at I b
  have s:=A7 cs 1 2
  obtain ⟨q1,C⟩:∃q,q=(cs.drop 1).take 2:=⟨_,rfl⟩
  rw[<-C] at t1 s
  have A:=A7 cs 3 1
  obtain ⟨q2,F⟩:∃q,q=(cs.drop 3).take 1:=⟨_,rfl⟩
  rw[<-F] at t2 A
  have B:=A7 cs 4 6
  obtain ⟨J,z⟩:∃q,q=(cs.drop 4).take 6:=⟨_,rfl⟩
  rw[<-z] at t3 B
  have D:=A7 cs 10 6
  obtain ⟨N,r⟩:∃q,q=(cs.drop 10).take 6:=⟨_,rfl⟩
  rw[<-r] at t4 D
  have u:=A7 cs 16 6
  obtain ⟨L,y⟩:∃q,q=(cs.drop 16).take 6:=⟨_,rfl⟩
  rw[<-y] at t5 u
  have G:=A7 cs 22 1
  obtain ⟨Q,p⟩:∃q,q=(cs.drop 22).take 1:=⟨_,rfl⟩
  rw[<-p] at t6 G
  have l:cs.drop 23=[]:=by rw[<-c];exact zJ
  simp only[Nat.reduceAdd] at b s A B D u G
  rw[zZ] at b
  rw[s] at b
  rw[A] at b
  rw[B] at b
  rw[D] at b
  rw[u] at b
  rw[G] at b
  rw[l] at b
  clear hcs
  obtain ⟨Y,P,O⟩:=Eb I
  obtain ⟨v1,Z,U⟩:=DK t1
  obtain ⟨v2,e2⟩:=Fu t2
  obtain ⟨v3,X,_⟩:=AM n J _ _ t3 (fun k f=>i k (by
   rw[o.1,DataW.weights,qH]
   exact yC (j:=3) (t:=26) (d:=y3.1) rfl rfl _ f))
  obtain ⟨v4,e4,_⟩:=AM n N _ _ t4 (fun k f=>i k (by
   rw[o.1,DataW.weights,qH]
   exact yC (j:=4) (t:=26) (d:=y4.1) rfl rfl _ f))
  obtain ⟨v5,e5,_⟩:=AM n L _ _ t5 (fun k f=>i k (by
   rw[o.1,DataW.weights,qH]
   exact yC (j:=5) (t:=26) (d:=y5.1) rfl rfl _ f))
  obtain ⟨a0,e⟩:∃v,Q=[v]:=zQ.1 (by rw[p,zg,xD,c];rfl)
  rw[e] at t6
  obtain ⟨E,R,V,Cg,K,_⟩:=Ea (Pr:=fun cs x=>FA (Kr W) W cs x) qG LZ R9 (by decide) (fun m _ cs d ps h i S=>Te m cs d ps h i S) t6 (fun k f=>i k (by
   rw[o.1,DataW.weights,qH]
   exact yC (j:=6) (t:=107) (d:=y6.1) rfl rfl _ f))
  rw[V] at e
  exact ⟨(⟨Y,v1,v2,v3,v4,v5,R⟩,E),O,U,J,N,L,by rw[b,P,Z,e2,e];simp,X,e4,e5,Cg⟩
theorem Rc(fuel:Nat)(cs:LV)(d:DataW H)(ps:List MemPlace)(h:DataW.trod enc Tryz.prog W 0 (fun _=>true) true fuel 131 cs=some (d,ps))(g:Wt 131 d)(i:cs.length=37):∃x:AZ,Fb (Kr W) W cs x:=by
 obtain ⟨N,n,a0,f,_,e,a⟩:=zL qI h
 simp only[zq] at f
 have e:N.length=10:=e
 match N,e with
 |[y0,y1,y2,y3,y4,y5,y6,y7,y8,y9],_=>
  have E:DataW.trod enc Tryz.prog W 0 (fun _=>true) true n 3 ((cs.drop 0).take (Tryz.prog.cellsOf 3))=some (y0.1,y0.2):=a 0 _ rfl
  rw[If] at E
  have t1:DataW.trod enc Tryz.prog W 0 (fun _=>true) true n 9 ((cs.drop 1).take (Tryz.prog.cellsOf 9))=some (y1.1,y1.2):=a 1 _ rfl
  rw[CC] at t1
  have t2:DataW.trod enc Tryz.prog W 0 (fun _=>true) true n 23 ((cs.drop 2).take (Tryz.prog.cellsOf 23))=some (y2.1,y2.2):=a 2 _ rfl
  rw[BD] at t2
  have t3:DataW.trod enc Tryz.prog W 0 (fun _=>true) true n 23 ((cs.drop 4).take (Tryz.prog.cellsOf 23))=some (y3.1,y3.2):=a 3 _ rfl
  rw[BD] at t3
  have t4:DataW.trod enc Tryz.prog W 0 (fun _=>true) true n 3 ((cs.drop 6).take (Tryz.prog.cellsOf 3))=some (y4.1,y4.2):=a 4 _ rfl
  rw[If] at t4
  have t5:DataW.trod enc Tryz.prog W 0 (fun _=>true) true n 26 ((cs.drop 7).take (Tryz.prog.cellsOf 26))=some (y5.1,y5.2):=a 5 _ rfl
  rw[AB] at t5
  have t6:DataW.trod enc Tryz.prog W 0 (fun _=>true) true n 26 ((cs.drop 13).take (Tryz.prog.cellsOf 26))=some (y6.1,y6.2):=a 6 _ rfl
  rw[AB] at t6
  have t7:DataW.trod enc Tryz.prog W 0 (fun _=>true) true n 26 ((cs.drop 19).take (Tryz.prog.cellsOf 26))=some (y7.1,y7.2):=a 7 _ rfl
  rw[AB] at t7
  have D:DataW.trod enc Tryz.prog W 0 (fun _=>true) true n 26 ((cs.drop 25).take (Tryz.prog.cellsOf 26))=some (y8.1,y8.2):=a 8 _ rfl
  rw[AB] at D
  have t9:DataW.trod enc Tryz.prog W 0 (fun _=>true) true n 26 ((cs.drop 31).take (Tryz.prog.cellsOf 26))=some (y9.1,y9.2):=a 9 _ rfl
  rw[AB] at t9
  have hcs:cs=cs.drop 0:=rfl
  have b:=A7 cs 0 1
  obtain ⟨q0,p⟩:∃q,q=(cs.drop 0).take 1:=⟨_,rfl⟩
  rw[<-p] at E b
  have F:=A7 cs 1 1
  obtain ⟨q1,K⟩:∃q,q=(cs.drop 1).take 1:=⟨_,rfl⟩
  rw[<-K] at t1 F
  have m:=A7 cs 2 2
  obtain ⟨q2,s⟩:∃q,q=(cs.drop 2).take 2:=⟨_,rfl⟩
  rw[<-s] at t2 m
  have G:=A7 cs 4 2
  obtain ⟨q3,r⟩:∃q,q=(cs.drop 4).take 2:=⟨_,rfl⟩
  rw[<-r] at t3 G
  have L:=A7 cs 6 1
  obtain ⟨q4,v⟩:∃q,q=(cs.drop 6).take 1:=⟨_,rfl⟩
  rw[<-v] at t4 L
  have z:=A7 cs 7 6
  obtain ⟨M,B⟩:∃q,q=(cs.drop 7).take 6:=⟨_,rfl⟩
  rw[<-B] at t5 z
  have o:=A7 cs 13 6
  obtain ⟨O,J⟩:∃q,q=(cs.drop 13).take 6:=⟨_,rfl⟩
  rw[<-J] at t6 o
  have C:=A7 cs 19 6
  obtain ⟨Q,y⟩:∃q,q=(cs.drop 19).take 6:=⟨_,rfl⟩
  rw[<-y] at t7 C
  have w:=A7 cs 25 6
  obtain ⟨R,u⟩:∃q,q=(cs.drop 25).take 6:=⟨_,rfl⟩
  rw[<-u] at D w
  have I:=A7 cs 31 6
  obtain ⟨P,A⟩:∃q,q=(cs.drop 31).take 6:=⟨_,rfl⟩
  rw[<-A] at t9 I
  have l:cs.drop 37=[]:=by rw[<-i];exact zJ
  simp only[Nat.reduceAdd] at b F m G L z o C w I
  rw[zZ] at b
  rw[F] at b
  rw[m] at b
  rw[G] at b
  rw[L] at b
  rw[z] at b
  rw[o] at b
  rw[C] at b
  rw[w] at b
  rw[I] at b
  rw[l] at b
  clear hcs
  obtain ⟨v0,V⟩:=Fu E
  obtain ⟨v1,Y,z1⟩:=Eb t1
  obtain ⟨v2,e2,z2⟩:=DK t2
  obtain ⟨v3,X,z3⟩:=DK t3
  obtain ⟨v4,e4⟩:=Fu t4
  obtain ⟨v5,e5,_⟩:=AM n M _ _ t5 (fun k c=>g k (by
   rw[f.1,DataW.weights,qI]
   exact yC (j:=5) (t:=26) (d:=y5.1) rfl rfl _ c))
  obtain ⟨v6,e6,_⟩:=AM n O _ _ t6 (fun k c=>g k (by
   rw[f.1,DataW.weights,qI]
   exact yC (j:=6) (t:=26) (d:=y6.1) rfl rfl _ c))
  obtain ⟨S,U,_⟩:=AM n Q _ _ t7 (fun k c=>g k (by
   rw[f.1,DataW.weights,qI]
   exact yC (j:=7) (t:=26) (d:=y7.1) rfl rfl _ c))
  obtain ⟨Z,e8,_⟩:=AM n R _ _ D (fun k c=>g k (by
   rw[f.1,DataW.weights,qI]
   exact yC (j:=8) (t:=26) (d:=y8.1) rfl rfl _ c))
  obtain ⟨v9,T,_⟩:=AM n P _ _ t9 (fun k c=>g k (by
   rw[f.1,DataW.weights,qI]
   exact yC (j:=9) (t:=26) (d:=y9.1) rfl rfl _ c))
  exact ⟨⟨v0,v1,v2,v3,v4,v5,v6,S,Z,v9⟩,z1,z2,z3,M,O,Q,R,P,by rw[b,V,Y,e2,X,e4];simp,e5,e6,U,e8,T⟩
theorem Tf(fuel:Nat)(cs:LV)(d:DataW H)(ps:List MemPlace)(h:DataW.trod enc Tryz.prog W 0 (fun _=>true) true fuel 135 cs=some (d,ps))(A:Wt 135 d)(f:cs.length=11):∃x:D9,Io (Kr W) W cs x:=by
 obtain ⟨w,n,D,v,_,c,a⟩:=zL qJ h
 simp only[zq] at v
 have c:w.length=4:=c
 match w,c with
 |[y0,y1,y2,y3],_=>
  have s:DataW.trod enc Tryz.prog W 0 (fun _=>true) true n 9 ((cs.drop 0).take (Tryz.prog.cellsOf 9))=some (y0.1,y0.2):=a 0 _ rfl
  rw[CC] at s
  have t1:DataW.trod enc Tryz.prog W 0 (fun _=>true) true n 23 ((cs.drop 1).take (Tryz.prog.cellsOf 23))=some (y1.1,y1.2):=a 1 _ rfl
  rw[BD] at t1
  have t2:DataW.trod enc Tryz.prog W 0 (fun _=>true) true n 23 ((cs.drop 3).take (Tryz.prog.cellsOf 23))=some (y2.1,y2.2):=a 2 _ rfl
  rw[BD] at t2
  have t3:DataW.trod enc Tryz.prog W 0 (fun _=>true) true n 26 ((cs.drop 5).take (Tryz.prog.cellsOf 26))=some (y3.1,y3.2):=a 3 _ rfl
  rw[AB] at t3
  have hcs:cs=cs.drop 0:=rfl
  have b:=A7 cs 0 1
  obtain ⟨K,i⟩:∃q,q=(cs.drop 0).take 1:=⟨_,rfl⟩
  rw[<-i] at s b
  have g:=A7 cs 1 2
  obtain ⟨L,p⟩:∃q,q=(cs.drop 1).take 2:=⟨_,rfl⟩
  rw[<-p] at t1 g
  have m:=A7 cs 3 2
  obtain ⟨M,r⟩:∃q,q=(cs.drop 3).take 2:=⟨_,rfl⟩
  rw[<-r] at t2 m
  have o:=A7 cs 5 6
  obtain ⟨u,l⟩:∃q,q=(cs.drop 5).take 6:=⟨_,rfl⟩
  rw[<-l] at t3 o
  have e:cs.drop 11=[]:=by rw[<-f];exact zJ
  simp only[Nat.reduceAdd] at b g m o
  rw[zZ] at b
  rw[g] at b
  rw[m] at b
  rw[o] at b
  rw[e] at b
  clear hcs
  obtain ⟨G,z,y⟩:=Eb s
  obtain ⟨v1,I,E⟩:=DK t1
  obtain ⟨v2,J,B⟩:=DK t2
  obtain ⟨v3,F,_⟩:=AM n u _ _ t3 (fun k C=>A k (by
   rw[v.1,DataW.weights,qJ]
   exact yC (j:=3) (t:=26) (d:=y3.1) rfl rfl _ C))
  exact ⟨⟨G,v1,v2,v3⟩,y,E,B,u,by rw[b,z,I,J];simp,F⟩
theorem PC{fuel:Nat}{cs:LV}{d:DataW H}{ps:List MemPlace}(h:DataW.trod enc Tryz.prog W 0 (fun _=>true) true fuel 35 cs=some (d,ps))(g:Wt 35 d)(f:cs.length=26):∃(L:Bt) (x:Ar),BH (Kr W) W L cs x∧L.duties.n<=L.duties.c∧L.rights.n<=L.rights.c:=by
 obtain ⟨ys,n,aq,u,_,E,a⟩:=zL qY h
 simp only[zq] at u
 have E:ys.length=11:=E
 match ys,E with
 |[y0,y1,y2,y3,y4,y5,y6,y7,y8,y9,y10],_=>
  have t0:DataW.trod enc Tryz.prog W 0 (fun _=>true) true n 9 ((cs.drop 0).take (Tryz.prog.cellsOf 9))=some (y0.1,y0.2):=a 0 _ rfl
  rw[CC] at t0
  have t1:DataW.trod enc Tryz.prog W 0 (fun _=>true) true n 26 ((cs.drop 1).take (Tryz.prog.cellsOf 26))=some (y1.1,y1.2):=a 1 _ rfl
  rw[AB] at t1
  have t2:DataW.trod enc Tryz.prog W 0 (fun _=>true) true n 26 ((cs.drop 7).take (Tryz.prog.cellsOf 26))=some (y2.1,y2.2):=a 2 _ rfl
  rw[AB] at t2
  have t3:DataW.trod enc Tryz.prog W 0 (fun _=>true) true n 26 ((cs.drop 13).take (Tryz.prog.cellsOf 26))=some (y3.1,y3.2):=a 3 _ rfl
  rw[AB] at t3
  have t4:DataW.trod enc Tryz.prog W 0 (fun _=>true) true n 27 ((cs.drop 19).take (Tryz.prog.cellsOf 27))=some (y4.1,y4.2):=a 4 _ rfl
  rw[Ij] at t4
  have t5:DataW.trod enc Tryz.prog W 0 (fun _=>true) true n 28 ((cs.drop 20).take (Tryz.prog.cellsOf 28))=some (y5.1,y5.2):=a 5 _ rfl
  rw[Ho] at t5
  have t6:DataW.trod enc Tryz.prog W 0 (fun _=>true) true n 29 ((cs.drop 21).take (Tryz.prog.cellsOf 29))=some (y6.1,y6.2):=a 6 _ rfl
  rw[GX] at t6
  have t7:DataW.trod enc Tryz.prog W 0 (fun _=>true) true n 30 ((cs.drop 22).take (Tryz.prog.cellsOf 30))=some (y7.1,y7.2):=a 7 _ rfl
  rw[Hp] at t7
  have t8:DataW.trod enc Tryz.prog W 0 (fun _=>true) true n 31 ((cs.drop 23).take (Tryz.prog.cellsOf 31))=some (y8.1,y8.2):=a 8 _ rfl
  rw[Hr] at t8
  have t9:DataW.trod enc Tryz.prog W 0 (fun _=>true) true n 32 ((cs.drop 24).take (Tryz.prog.cellsOf 32))=some (y9.1,y9.2):=a 9 _ rfl
  rw[GY] at t9
  have y:DataW.trod enc Tryz.prog W 0 (fun _=>true) true n 33 ((cs.drop 25).take (Tryz.prog.cellsOf 33))=some (y10.1,y10.2):=a 10 _ rfl
  rw[Hs] at y
  have p:=A7 cs 0 1
  obtain ⟨q0,ac⟩:∃q,q=(cs.drop 0).take 1:=⟨_,rfl⟩
  rw[<-ac] at t0 p
  have s1:=A7 cs 1 6
  obtain ⟨q1,ah⟩:∃q,q=(cs.drop 1).take 6:=⟨_,rfl⟩
  rw[<-ah] at t1 s1
  have s2:=A7 cs 7 6
  obtain ⟨q2,ae⟩:∃q,q=(cs.drop 7).take 6:=⟨_,rfl⟩
  rw[<-ae] at t2 s2
  have s3:=A7 cs 13 6
  obtain ⟨q3,ad⟩:∃q,q=(cs.drop 13).take 6:=⟨_,rfl⟩
  rw[<-ad] at t3 s3
  have s4:=A7 cs 19 1
  obtain ⟨q4,S⟩:∃q,q=(cs.drop 19).take 1:=⟨_,rfl⟩
  rw[<-S] at t4 s4
  have s5:=A7 cs 20 1
  obtain ⟨q5,Y⟩:∃q,q=(cs.drop 20).take 1:=⟨_,rfl⟩
  rw[<-Y] at t5 s5
  have s6:=A7 cs 21 1
  obtain ⟨q6,a7⟩:∃q,q=(cs.drop 21).take 1:=⟨_,rfl⟩
  rw[<-a7] at t6 s6
  have s7:=A7 cs 22 1
  obtain ⟨q7,U⟩:∃q,q=(cs.drop 22).take 1:=⟨_,rfl⟩
  rw[<-U] at t7 s7
  have s8:=A7 cs 23 1
  obtain ⟨q8,R⟩:∃q,q=(cs.drop 23).take 1:=⟨_,rfl⟩
  rw[<-R] at t8 s8
  have s9:=A7 cs 24 1
  obtain ⟨q9,X⟩:∃q,q=(cs.drop 24).take 1:=⟨_,rfl⟩
  rw[<-X] at t9 s9
  have I:=A7 cs 25 1
  obtain ⟨ag,z⟩:∃q,q=(cs.drop 25).take 1:=⟨_,rfl⟩
  rw[<-z] at y I
  have T:cs.drop 26=[]:=by rw[<-f];exact zJ
  simp only[Nat.reduceAdd] at p s1 s2 s3 s4 s5 s6 s7 s8 s9 I
  rw[zZ] at p
  rw[s1] at p
  rw[s2] at p
  rw[s3] at p
  rw[s4] at p
  rw[s5] at p
  rw[s6] at p
  rw[s7] at p
  rw[s8] at p
  rw[s9] at p
  rw[I] at p
  rw[T] at p
  obtain ⟨v0,e0,z0⟩:=Eb t0
  obtain ⟨v1,e1,_⟩:=AM n q1 _ _ t1 (fun k l=>g k (by
   rw[u.1,DataW.weights,qY]
   exact yC (j:=1) (t:=26) (d:=y1.1) rfl rfl _ l))
  obtain ⟨v2,e2,_⟩:=AM n q2 _ _ t2 (fun k l=>g k (by
   rw[u.1,DataW.weights,qY]
   exact yC (j:=2) (t:=26) (d:=y2.1) rfl rfl _ l))
  obtain ⟨v3,e3,_⟩:=AM n q3 _ _ t3 (fun k l=>g k (by
   rw[u.1,DataW.weights,qY]
   exact yC (j:=3) (t:=26) (d:=y3.1) rfl rfl _ l))
  obtain ⟨ap,J⟩:∃v,q4=[v]:=zQ.1 (by rw[S,zg,xD,f];rfl)
  rw[J] at t4
  obtain ⟨V,l4,e4,P,al,_⟩:=Ea (Pr:=fun cs x=>H7 (Kr W) W cs x) qQ Mr T8 (by decide) (fun m _ cs d ps h g r=>UL m cs d ps h g r) t4 (fun k l=>g k (by
   rw[u.1,DataW.weights,qY]
   exact yC (j:=4) (t:=27) (d:=y4.1) rfl rfl _ l))
  rw[e4] at J
  obtain ⟨ao,F⟩:∃v,q5=[v]:=zQ.1 (by rw[Y,zg,xD,f];rfl)
  rw[F] at t5
  obtain ⟨O,l5,e5,aa,aj,_⟩:=Ea (Pr:=fun cs x=>Il (Kr W) W cs x) qR LX R6 (by decide) (fun m _ cs d ps h g r=>Tc m cs d ps h g r) t5 (fun k l=>g k (by
   rw[u.1,DataW.weights,qY]
   exact yC (j:=5) (t:=28) (d:=y5.1) rfl rfl _ l))
  rw[e5] at F
  obtain ⟨au,B⟩:∃v,q6=[v]:=zQ.1 (by rw[a7,zg,xD,f];rfl)
  rw[B] at t6
  obtain ⟨a0,l6,e6,Cg,an,_⟩:=Ea (Pr:=fun cs x=>Fa (Kr W) W cs x) qS Kp Px (by decide) (fun m _ cs d ps h g r=>Rb m cs d ps h g r) t6 (fun k l=>g k (by
   rw[u.1,DataW.weights,qY]
   exact yC (j:=6) (t:=29) (d:=y6.1) rfl rfl _ l))
  rw[e6] at B
  obtain ⟨av,C⟩:∃v,q7=[v]:=zQ.1 (by rw[U,zg,xD,f];rfl)
  rw[C] at t7
  obtain ⟨a2,l7,e7,WC,am,_⟩:=Ea (Pr:=fun cs x=>Im (Kr W) W cs x) qU LY R7 (by decide) (fun m _ cs d ps h g r=>Td m cs d ps h g r) t7 (fun k l=>g k (by
   rw[u.1,DataW.weights,qY]
   exact yC (j:=7) (t:=30) (d:=y7.1) rfl rfl _ l))
  rw[e7] at C
  obtain ⟨ar,D⟩:∃v,q8=[v]:=zQ.1 (by rw[R,zg,xD,f];rfl)
  rw[D] at t8
  obtain ⟨N,Z,e8,w,ak,_⟩:=Ea (Pr:=fun cs (x:BG × Aw)=>H8 (Kr W) W x.2 cs x.1) qV M0 T9 (by decide) (fun m _ cs d ps h g r=>UM m cs d ps h g r) t8 (fun k l=>g k (by
   rw[u.1,DataW.weights,qY]
   exact yC (j:=8) (t:=31) (d:=y8.1) rfl rfl _ l))
  rw[e8] at D
  obtain ⟨aw,G⟩:∃v,q9=[v]:=zQ.1 (by rw[X,zg,xD,f];rfl)
  rw[G] at t9
  obtain ⟨a6,l9,e9,a8,Q,_⟩:=Ea (Pr:=fun cs x=>Fb (Kr W) W cs x) qW Kq Py (by decide) (fun m _ cs d ps h g r=>Rc m cs d ps h g r) t9 (fun k l=>g k (by
   rw[u.1,DataW.weights,qY]
   exact yC (j:=9) (t:=32) (d:=y9.1) rfl rfl _ l))
  rw[e9] at G
  obtain ⟨ai,s⟩:∃v,ag=[v]:=zQ.1 (by rw[z,zg,xD,f];rfl)
  rw[s] at y
  obtain ⟨A,ab,af,RU,K,_⟩:=Ea (Pr:=fun cs x=>Io (Kr W) W cs x) qX M1 Ra (by decide) (fun m _ cs d ps h g r=>Tf m cs d ps h g r) y (fun k l=>g k (by
   rw[u.1,DataW.weights,qY]
   exact yC (j:=10) (t:=33) (d:=y10.1) rfl rfl _ l))
  rw[af] at s
  refine ⟨⟨0,V,O,a0,a2,N,a6,A,Z.map (·.2)⟩,⟨v0,v1,v2,v3,l4,l5,l6,l7,Z.map (·.1),l9,ab⟩,⟨z0,⟨q1,q2,q3,?_,e1,e2,e3⟩,P,aa,Cg,WC,⟨?_,?_,fun i hi=>?_⟩,a8,RU⟩,K,Q⟩
  ·rw[p,e0,J,F,B,C,D,G,s];simp
  ·rw[yV];exact w.1
  ·rw[yV];exact w.2.1
  ·have M:i < Z.length:=by simpa using hi
   obtain ⟨b,o,c,g1,g2,g3,g4,g5⟩:=w.2.2 i M
   refine ⟨b,o,c,g1,g2,g3,g4,?_⟩
   have e:A2 ⟨0,V,O,a0,a2,N,a6,A,Z.map (·.2)⟩ i=(Z[i]).2:=by
    unfold A2;simp[xP,M]
   rw[e]
   simpa using g5
end
end Go.Proofs.YtjofgpfocadomaaGreatDoor
