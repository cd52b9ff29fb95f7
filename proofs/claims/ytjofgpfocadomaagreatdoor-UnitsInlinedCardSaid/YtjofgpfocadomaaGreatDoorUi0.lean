/- Parts of the proof, in short words: Ka La Na Ga Gb Shelf Nb Oa Nc Nd Nf Ng Oe Oc Pe Rq Ea Eb Ef Fa Ec Sq Yo Wa -/
import Derived.Test.YtjofgpfocadomaaGreatDoorProg
import Derived.WalkKit
import Derived.WalkSpells
import Derived.Below
import Derived.Deep.MidRow
import Derived.Lib.Hide
import Derived.RangeFuncNested
import Derived.RangeFuncCalls
import Derived.RangeFuncLeaves
import Derived.Shelf.Small.Strs
import Derived.Shelf.Strings.Search1
import Derived.Shelf.Strings.Search2
import Derived.Shelf.Strings.Search3
import Derived.Shelf.LaysM
import Derived.Shelf.Strings.Shaped
import Derived.Laws.EntriesVeiled
import Derived.WalkLawsBesides
import Derived.Deep.QuietTactic
import Derived.BigQuiet
import Derived.Lib.IndexAny
import Derived.OwnWalkIn
import Derived.TacticsInMore
import Derived.LoopNIn
import Derived.LoopIn
import Derived.Maps.Own
import Derived.Maps.Views
import Derived.OrdersHeld
import Derived.Deep.RegionHeld3
import Derived.Orders
import Derived.OrdersIn
import Derived.TacticsIn
import Derived.ControlIn
import Derived.Great.BuildSlice
import Derived.Deep.Slices
import Derived.Deep.Fields
import Derived.ChangeSame
import Derived.OpenShut
import Derived.SizedLaws
set_option maxRecDepth 100000
set_option maxHeartbeats 4000000
set_option linter.unusedSimpArgs false
set_option linter.defProp false
namespace Go.Proofs.YtjofgpfocadomaaGreatDoor
open Go.RowKit
theorem yb{p:Prop}(h:p):Hid p:=h
theorem _root_.Go.RowKit.Hid.o{p:Prop}(h:Hid p):p:=h
def yd:=@Array.getElem?_eq_some_iff
def yf:=@Nat.le_refl
def yg:=@Below.refl
def yi:=@Option.some.inj
def yj:=@wpList_load_mid
def yk:=@List.getElem?_eq_getElem
def ym:=@List.length_append
def yn:=@Bool.eq_false_iff
def yq:=@List.size_toArray
def yt:=@if_neg
def yu:=@Nat.le_trans
def yv:=@Nat.lt_of_lt_of_le
def yw:=@if_pos
def yx:=@List.length_cons
def yy:=@Nat.zero_add
def yz:=@List.mem_append
def yA:=@List.getElem?_eq_some_iff
def yB:=@all_oneCell_toArray
def yC:=@DataW.weights_mem_each
def yD:=@Below.heap_alloc
def yE:=@Array.getD_eq_getD_getElem?
def yF:=@congrArg
def yG:=@Bool.and_eq_true
def yH:=@List.length_nil
def yI:=@List.mem_cons
def yJ:=@List.take_succ_eq_append_getElem
def yK:=@Nat.zero_le
def yL:=@List.append_assoc
def yM:=@List.getElem_mem
def yN:=@Array.getElem?_modify
def yO:=@of_decide_eq_true
def yP:=@List.cons_append
def yQ:=@World.block_lt_of_cell?
def yR:=@List.all_eq_true
def yS:=@List.nil_append
def yT:=@List.take_length
def yU:=@List.getElem?_append_right
def yV:=@List.append_nil
def yW:=@List.flatMap_cons
def yX:=@List.length_map
def yY:=@List.mem_flatMap
def yZ:=@List.not_mem_nil
def z6:=@callsIn_wide
def z7:=@decide_eq_true_eq
def z8:=@World.size_alloc
def za:=@Option.some.injEq
def zb:=@wpList_store_row
def zc:=@List.length_take
def ze:=@List.mem_singleton
def zg:=@List.mem_range
def zh:=@List.mem_iff_getElem
def zj:=@wp_store_mid
def zk:=@heap_setCell_other
def zl:=@List.length_eq_zero_iff
def zm:=@CallsIn.mono
def zn:=@List.getElem?_append_left
def zo:=@World.rangeAt_of_block
def zp:=@heap_setCell_same
def zq:=@results_none
def zr:=@Prod.mk.injEq
def zs:=@List.flatten_cons
def zt:=@List.flatMap_nil
def zu:=@Array.all_eq_true_iff_forall_mem
def zv:=@List.map_cons
def zw:=@bodyPost_ret
def zx:=@wpList_plain
def zy:=@Array.replicate_succ
def zA:=@Array.replicate_zero
def zB:=@WideShapes.add_plain
def zC:=@List.length_zipIdx
def zD:=@if_true
def zE:=@Oper.semAt_some
def zF:=@List.map_append
def zG:=@List.getElem_map
def zH:=@or_false
def zI:=@List.drop_length
def zJ:=@List.append_toArray
def zK:=@List.flatMap_append
def zL:=@DataW.trod_struct
def zM:=@StepsIn.trans
def zN:=@List.getElem?_take
def zO:=@List.length_eq_one_iff
def zP:=@ByteArray.toList_eq
def zQ:=@List.push_toArray
def zR:=@Nat.add_assoc
def zS:=@List.take_append_drop
def zT:=@List.map_nil
def zU:=@Nat.lt_or_ge
def zV:=@Array.mem_of_getElem?
def zW:=@Nat.add_sub_cancel_left
def zX:=@List.mem_of_getElem?
def zY:=@List.flatMap_map
def zZ:=@List.setIfInBounds_toArray
def xb:=@List.cons.inj
def xd:=@List.take_zero
def xf:=@List.drop_zero
def xg:=@List.drop_eq_getElem_cons
def xi:=@Ne.symm
def xj:=@List.flatten_nil
def xk:=@getD_set_ne
def xm:=@decide_eq_true
def xp:=@List.forall_mem_cons
def xq:=@List.all_eq_false
def xr:=@decide_eq_false
def xt:=@Sem.run_bind
def xu:=@Option.bind_some
def xv:=@List.map_flatMap
def xw:=@List.length_drop
def xx:=@mem_ready
def xy:=@List.getElem_append_right
def xz:=@List.getElem_append_left
def xA:=@Bool.eq_iff_iff
def xB:=@Option.map_some
def xD:=@List.ext_getElem
def xE:=@Array.getElem?_eq_none
def xF:=@List.set_cons_zero
def xG:=@List.set_cons_succ
def xH:=@Below.heap_setCell
def xI:=@Nat.lt_of_le_of_lt
def xJ:=@List.append_inj
def xK:=@List.getD_eq_getElem?_getD
def xL:=@Nat.mul_le_mul_right
def xM:=@fenced_wide
def xN:=@stepR_block
def xO:=@wp_load_mid
def xP:=@List.zipIdx_cons
def xQ:=@Nat.lt_succ_self
def xR:=@List.mem_map
def xS:=@Value.pointer.injEq
def xT:=@List.getElem?_cons_zero
def xU:=@List.cons.injEq
def xV:=@Array.any_eq_true'
def xW:=@List.take_of_length_le
def xX:=@List.zipWith_cons_cons
def xY:=@Result.andThen_ok
def xZ:=@Nat.add_zero
def qb:=@run_underlying
def qc:=@wpIn_wide
def qd:=@if_false
def qg:=@Lib.cell?_alloc_some
def qi:=@rounds_succ
def qj:=@List.getElem_zipIdx
def qk:=@List.all_append
def qm:=@List.foldl_cons
def qn:=@Nat.eq_zero_or_pos
def qo:=@of_decide_eq_false
def qp:=@Nat.le_of_lt
def qr:=@beq_iff_eq
def qt:=@Nat.mul_le_mul
def qu:=@Array.mk.injEq
def qv:=@Value.slice.injEq
def qw:=@List.getElem?_map
def qz:=@setRow_heap
def qA:=@Nat.one_mul
def qB:=@Addr.mk.injEq
def qC:=@Nat.lt_irrefl
def qD:=@Tryz.underlying107
def qE:=@Tryz.underlying109
def qF:=@Tryz.underlying131
def qG:=@Tryz.underlying135
def qH:=@Tryz.underlying137
def qI:=@Tryz.underlying158
def qL:=@Tryz.underlying24
def qM:=@Tryz.underlying26
def qN:=@Tryz.underlying27
def qO:=@Tryz.underlying28
def qP:=@Tryz.underlying29
def qQ:=@Tryz.underlying3
def qR:=@Tryz.underlying30
def qS:=@Tryz.underlying31
def qT:=@Tryz.underlying32
def qU:=@Tryz.underlying33
def qV:=@Tryz.underlying35
def qW:=@Tryz.underlying39
def qX:=@Tryz.underlying4
def qY:=@Tryz.underlying44
def j0:=@Tryz.underlying50
def j1:=@Tryz.underlying64
def j2:=@Tryz.underlying66
def j3:=@Tryz.underlying68
def j4:=@Tryz.underlying70
def j5:=@Tryz.underlying73
def j6:=@Tryz.underlying81
def j7:=@Tryz.underlying9
def j8:=@Tryz.underlying92
def j9:=@Tryz.underlying94
abbrev iV (n:Int):Value:=.int .i64 n
abbrev aV (b o:Nat):Addr:=⟨b,o,none⟩
abbrev pV (b o:Nat):Value:=.pointer (some ⟨b,o,none⟩)
abbrev LV:=List Value
abbrev LB:=List ByteArray
abbrev NP:=Nat->Prop
abbrev QT:=Exit->Act->World->Prop
abbrev _root_.Go.World.z (w:World):Nat:=w.heap.size
abbrev ja:Array Value:=#[.int .i64 0,.int .i64 0,.int .i64 0,.string {data:=#[]},.int .i64 0,.slice none 0 0]
abbrev jb:Array Value:=#[.int .i64 0,.int .i64 0,.int .i64 0,.int .i64 0,.int .i64 0,.int .i64 0]
abbrev jc:Array Value:=#[.int .i64 0,.int .i64 0]
abbrev jd:Array Value:=#[.int .i64 0,.int .i64 0,.int .i64 0]
abbrev jf:List Value:=[.int .i64 0,.int .i64 0,.int .i64 0]
abbrev jg:Array Value:=#[.int .i64 0]
abbrev jh:Array Value:=#[.slice none 0 0]
end Go.Proofs.YtjofgpfocadomaaGreatDoor
namespace Go.Proofs.YtjofgpfocadomaaGreatDoor
open Go.RowKit
variable{F:Fence}{n:Nat}{P:Program}
def Pj(P:Program)(l:Nat)(R:Ending->World->Prop):Exit->Act->World->Prop
 |.normal,_,w=>∃v w',(Instr.endRound l none).run P w=.ok v w'∧R (.returned v) w'
 |.ret,_,w=>∃v w',(Instr.endRound l (some .ret)).run P w=.ok v w'∧R (.returned v) w'
 |.exit id,_,w=>∃v w',(Instr.endRound l (some (.exit id))).run P w=.ok v w'∧R (.returned v) w'
 |.goto t,_,w=>∃v w',(Instr.endRound l (some (.goto t))).run P w=.ok v w'∧R (.returned v) w'
 |.panic chain,a,w=>a.defers=[]∧R (.panicked chain) w
 |.outgrown,_,_=>False
theorem FP{l:Nat}{f:FuncId}{fn:Func}(C:P.funcs[f]?=some fn){tmps:Array Value}{assign body:Code}{w:World}{R:Ending->World->Prop}(I:F.fn f)
 (h:assign.wpIn (F.inRound l) n P (Exit.then (fun u D=>∃z,(Instr.beginRound l).run P D=.ok () z∧body.wpIn (F.inRound l) n P (Pj P l R) u z) (fun _ _ _=>False))
   {tmps:=tmps,defers:=[]} w):
  RoundIn F n P l f tmps assign body w R:=by
 refine ⟨I,fun c cs hr=>?_⟩
 let b:Frame:={(default:Frame) with fn:=f,kind:=.normal,roundOf:=some l}
 have A:Frame.round l f tmps assign body .normal=b.atR {tmps:=tmps,defers:=[]} [.code assign,.beginRound,.code body]:=by
  simp[Frame.round,Frame.atR,b]
 have j:(F.inRound l).room ((c::cs).length+1+n):=hr
 have i:(F.inRound l).fn b.fn:=I
 obtain ⟨e,u,D,r,g⟩:=h b [.beginRound,.code body] (c::cs) rfl i j
 rw[<-A] at g
 cases e with
 |normal=>
  obtain ⟨z,E,p⟩:=r
  have x:StepsIn (Machine.fenced P (F.inRound l)) P (lone (b.atR u [.beginRound,.code body]) (c::cs) D) (lone (b.atR u [.code body]) (c::cs) z):=
   .one (fenced_calm (fr:=b.atR u [.beginRound,.code body]) i j rfl) (stepR_beginRound rfl E)
  obtain ⟨J,s,H,k,d⟩:=p b [] (c::cs) rfl i j
  cases J with
  |normal=>
   obtain ⟨v,q,a,m⟩:=k
   exact ⟨.returned v,q,m,(zM g x).trans (zM d (.one (fenced_calm (fr:=b.atR s []) i j rfl) (stepR_round_end rfl rfl a)))⟩
  |ret=>
   obtain ⟨v,q,a,m⟩:=k
   obtain ⟨y,hs⟩:=d.2 rfl
   exact ⟨.returned v,q,m,(zM g x).trans (zM hs (.one (fenced_calm (fr:=b.atR s (.code .ret::y)) i j rfl) (stepR_round_ret rfl rfl a)))⟩
  |exit id=>
   obtain ⟨v,q,a,m⟩:=k
   obtain ⟨y,B,hs⟩:=d.2 rfl rfl
   exact ⟨.returned v,q,m,(zM g x).trans (zM hs (.one (fenced_calm (fr:=b.atR s (.code (.exit id)::y)) i j rfl) (stepR_round_exit rfl rfl B a)))⟩
  |goto t=>
   obtain ⟨v,q,a,m⟩:=k
   obtain ⟨y,B,hs⟩:=d.2 rfl rfl
   exact ⟨.returned v,q,m,(zM g x).trans (zM hs (.one (fenced_calm (fr:=b.atR s (.code (.goto t)::y)) i j rfl) (stepR_round_goto rfl rfl B a)))⟩
  |panic chain=>
   obtain ⟨hd,m⟩:=k
   obtain ⟨o,hs⟩:=d
   have G:Frame.leaving P {b.atR s o with mode:=.panicking chain} H (.panicked chain):=⟨rfl,hd,fn,C⟩
   exact ⟨.panicked chain,H,m,(zM g x).trans (zM hs (.one (fenced_leaving (fr:={b.atR s o with mode:=.panicking chain}) i j G) (step_leave_panicked G)))⟩
  |outgrown=>exact k.elim
 |exit id=>exact r.elim
 |goto t=>exact r.elim
 |ret=>exact r.elim
 |panic chain=>exact r.elim
 |outgrown=>exact r.elim
def AL(O:NP)(W W':World):Prop:=W.heap.size<=W'.heap.size∧∀b,O b->W'.heap[b]?=W.heap[b]?
theorem AL.refl(O:NP)(W:World):AL O W W:=⟨yf _,fun _ _=>rfl⟩
theorem AL.trans{O:NP}{A B C:World}(h:AL O A B)(k:AL O B C):AL O A C:=⟨yu h.1 k.1,fun b hb=>(k.2 b hb).trans (h.2 b hb)⟩
theorem AL.sub{O a:NP}{A B:World}(h:AL O A B)(hs:∀b,a b->O b):AL a A B:=⟨h.1,fun b hb=>h.2 b (hs b hb)⟩
def Ca{β:Type}(J:β->NP->World->Prop):Prop:=
 ∀s O W a W',J s O W->W.heap.size<=W'.heap.size->W'.os=W.os->W'.tape=W.tape->W'.output=W.output->(∀b,¬ O b->b < W.heap.size->W'.heap[b]?=W.heap[b]?)->(∀b,a b->O b∨W.heap.size<=b)->J s a W'
def U5(F:Fence)(n:Nat)(P:Program)(g:Nat)(lb:Array Value)(Hd:World->Prop)(xs:List (Array Value))(own:Option (List PanicEntry)):Prop:=
 ∀(l:Nat) (J:Nat->NP->World->Prop) (Jx:NP->World->Prop) (Jp:List PanicEntry->NP->World->Prop) (W:World),
  Ca J->Ca (fun (_:Unit)=>Jx)->(∀a,Ca (fun (_:Unit)=>Jp a))->(∀k O W,J k O W->Hd W)->(∀O W,Jx O W->Hd W)->(∀a,own=some a->∀O W,J xs.length O W->Jp a O W)->
  (∀k (c:k < xs.length) O W1,J k O W1->W.heap.size<=W1.heap.size->(∀b,O b->W.heap.size<=b∧b < W1.heap.size)->YieldAt F (n - 1) P l xs[k] W1 fun e W'=>
   (e=.returned (.bool true)∧J (k+1) O W'∧AL O W1 W')∨(e=.returned (.bool false)∧Jx O W'∧AL O W1 W')∨(∃a,e=.panicked a∧Jp a O W'∧AL O W1 W'))->
  J 0 (fun _=>False) W->
  CallsIn F n P g (#[.func (.yield l) #[] #[]]++lb) W fun e W'=>
   ((∃v,e=.returned v)∧((own=none∧∃O,J xs.length O W')∨∃O,Jx O W'))∨∃a,e=.panicked a∧∃O,Jp a O W'
def FE(f:FuncId)(P:Program)(c:Code)(Q:QT)(a:Act)(w:World):Prop:=
 ∀(b:Frame) (k:List Item) (cs:List Frame),b.roundOf=none->b.fn=f->
  ∃e d w',Q e d w'∧ArrivesIn (Machine.fenced P Fence.wide) P (lone (b.atR a (.code c::k)) cs w) b k cs e d w'
section
variable{f:FuncId}{Q:QT}{a:Act}{w:World}
theorem U6{c:Code}(h:c.wpIn Fence.wide n P Q a w):FE f P c Q a w:=fun b k cs d _=>h b k cs d trivial (room_wide _)
theorem A4{c:Code}(h:c.wp P Q a w):FE f P c Q a w:=U6 (n:=0) (qc.2 h)
theorem A9{x y:Code}(h:FE f P x (Exit.then (FE f P y Q) Q) a w):FE f P (Code.seq x y) Q a w:=by
 intro b k cs j hb
 have h0:(lone (b.atR a (.code (.seq x y)::k)) cs w).fenced P Fence.wide:=xM _ _
 obtain ⟨e,i,m,g,c⟩:=h b (.code y::k) cs j hb
 cases e with
 |normal=>
  obtain ⟨p,o,q,n,d⟩:=g b k cs j hb
  exact ⟨p,o,q,n,.of_steps (.head h0 stepR_seq c) d⟩
 |exit id=>exact ⟨_,i,m,g,.of_steps (.one h0 stepR_seq) (.pass (x:=.code y) rfl (fun _ _=>.inl (by simp)) c)⟩
 |goto l=>exact ⟨_,i,m,g,.of_steps (.one h0 stepR_seq) (.pass (x:=.code y) rfl (fun _ _=>.inl (by simp)) c)⟩
 |ret=>exact ⟨_,i,m,g,.of_steps (.one h0 stepR_seq) (.pass (x:=.code y) rfl (fun _ _=>.inl (by simp)) c)⟩
 |panic ch=>exact ⟨_,i,m,g,.of_steps (.one h0 stepR_seq) (.pass (x:=.code y) rfl (fun _ _=>.inl (by simp)) c)⟩
 |outgrown=>exact ⟨_,i,m,g,.of_steps (.one h0 stepR_seq) (.pass (x:=.code y) rfl (fun _ _=>.inl (by simp)) c)⟩
theorem D7{id:Nat}{c:Code}(h:FE f P c (Exit.inBlock id Q) a w):FE f P (Code.block id c) Q a w:=by
 intro b k cs q hb
 have h0:(lone (b.atR a (.code (.block id c)::k)) cs w).fenced P Fence.wide:=xM _ _
 obtain ⟨e,m,n,g,d⟩:=h b (.inBlock id::k) cs q hb
 cases e with
 |normal=>exact ⟨.normal,m,n,g,.head h0 xN (zM d (.one (xM _ _) stepR_inBlock))⟩
 |exit id'=>
  by_cases i:id'=id
  ·simp only[Exit.inBlock,i,zD] at g
   exact ⟨.normal,m,n,g,.head h0 xN (d.1 k (by simp[exitTo,i]))⟩
  ·simp only[Exit.inBlock,i,qd] at g
   have this:(id==id')=false:=by simp;exact fun h=>i h.symm
   have p:exitTo id' (.inBlock id::k)=exitTo id' k:=by simp[exitTo,this]
   exact ⟨.exit id',m,n,g,fun k' j=>.head h0 xN (d.1 k' (by rw[p];exact j)),
    fun o j=>let ⟨k₁,h1,h2⟩:=d.2 o (by rw[p];exact j);⟨k₁,h1,.head h0 xN h2⟩⟩
 |goto l=>
  have p:gotoIn l (.inBlock id::k)=gotoIn l k:=by simp[gotoIn]
  exact ⟨_,m,n,g,fun k' j=>.head h0 xN (d.1 k' (by rw[p];exact j)),
   fun o j=>let ⟨k₁,h1,h2⟩:=d.2 o (by rw[p];exact j);⟨k₁,h1,.head h0 xN h2⟩⟩
 |ret=>exact ⟨_,m,n,g,.of_steps (.one h0 xN) d⟩
 |panic ch=>exact ⟨_,m,n,g,.of_steps (.one h0 xN) d⟩
 |outgrown=>exact ⟨_,m,n,g,.of_steps (.one h0 xN) d⟩
end
def UP(O:NP)(J:Nat->NP->World->Prop)(Jx:Code->NP->World->Prop)(Jp:List PanicEntry->NP->World->Prop)(k:Nat)(W:World):Exit->Act->World->Prop
 |.normal,_,W'=>AL O W W'∧J (k+1) O W'
 |.ret,_,W'=>AL O W W'∧Jx .ret O W'
 |.exit id,_,W'=>AL O W W'∧Jx (.exit id) O W'
 |.goto t,_,W'=>AL O W W'∧Jx (.goto t) O W'
 |.panic ch,a,W'=>a.defers=[]∧AL O W W'∧Jp ch O W'
 |.outgrown,_,_=>False
theorem Ca.put{β:Type}{J:β->NP->World->Prop}(h:Ca J){s:β}{O:NP}{W:World}{l:Nat}(a:O l)(o:Obj)(hs:J s O W):J s O (W.putObj l o):=
 h s O W O _ hs (by simp) rfl rfl rfl (fun b hb _=>World.putObj_heap_other (fun e=>hb (e▸a))) (fun b hb=>.inl hb)
theorem GQ{f:FuncId}{g:Operand}{ps:Array Tmp}{assign body:Code}{Q:QT}{a:Act}{w:World}
 (h:∃(l:Nat) (m:List Deferred) (D:World) (d:Deferred) (s:World) (gf:FuncId) (args:Array Value) (E:World),
   (Instr.enterLoop f a.tmps ps assign body none).run P w=.ok (l,m) D∧
   (resolve a.eval (rangeCall g l) 0).run P D=.ok d s∧
   (invoke d.target d.args).run P s=.ok (.enter gf args) E∧
   CallsIn Fence.wide (n - 1) P gf args E (rangePost Fence.wide n P l Q {a with defers:=m++a.defers})):
  FE f P (Code.rangeFunc g ps assign body) Q a w:=by
 intro b k cs x hb
 obtain ⟨l,m,D,d,s,gf,args,E,G,y,t,O,r⟩:=h
 rw[<-x,<-hb] at G
 have j:=stepR_rangeFunc (P:=P) (b:=b) (a:=a) (k:=k) (cs:=cs) (w:=w) G y t
 obtain ⟨e,J,fr,C,i,K,o⟩:=r (b.atR {a with defers:=m++a.defers} (.inRangeFunc l::k)::cs) (room_wide _)
 cases e with
 |outgrown=>
  obtain ⟨L,M,A⟩:=C
  exact ⟨.outgrown,L,M,A,.inr (Outgrown.of_steps (.one j) i)⟩
 |returned v=>
  obtain ⟨q,F,u,H⟩:=C
  have p:StepsIn (Machine.fenced P Fence.wide) P (lone (b.atR a (.code (.rangeFunc g ps assign body)::k)) cs w) (lone (b.atR {a with defers:=m++a.defers} ((q.map Item.code).toList++k)) cs F):=by
   refine .head (xM _ _) j (zM i (.head (xM _ _) ?_ (.one (xM _ _) (stepR_endRangeFunc u))))
   rw[<-finish_atR_inRangeFunc l v];exact step_leave_returned o
  cases q with
  |none=>exact ⟨.normal,_,F,H,p⟩
  |some c=>
   obtain ⟨I,B,N,A,z⟩:=H b k cs x trivial (room_wide _)
   exact ⟨I,B,N,A,.of_steps p z⟩
 |panicked chain=>
  refine ⟨.panic chain,_,J,C,.inRangeFunc l::k,.head (xM _ _) j (zM i (.one (xM _ _) ?_))⟩
  rw[<-Frame.raise_atR];exact step_leave_panicked o
theorem CC{f:FuncId}{fn:Func}(hf:P.funcs[f]?=some fn){g:Operand}{ps:Array Tmp}{assign body:Code}{Q:QT}{a:Act}{w:World}
 {gf:Nat}{lb:Array Value}(hg:a.eval g=.func (.func gf) #[] lb)(eg:∀args w,(callFunc gf args).run P w=.ok (.enter gf args) w)
 {Hd:World->Prop}{xs:List (Array Value)}{own:Option (List PanicEntry)}(a7:U5 Fence.wide (n - 1) P gf lb Hd xs own)(ac:∀x∈xs,x.size=ps.size)
 (J:Nat->NP->World->Prop)(Jx:Code->NP->World->Prop)(Jp:List PanicEntry->NP->World->Prop)(A:Nat->Act->NP->World->Prop)
 (hJ:Ca J)(G:∀c,Ca (fun (_:Unit)=>Jx c))(ad:∀y,Ca (fun (_:Unit)=>Jp y))(hA:∀a,Ca (fun k=>A k a))(aj:∀k O W,J k O W->Hd W)(a2:∀c O W,Jx c O W->Hd W)(aa:∀y,own=some y->∀O W,J xs.length O W->Jp y O W)
 (h0:J 0 (fun _=>False) w)
 (F:∀k (hk:k < xs.length) O W l,J k O W->O l->(∃r,W.heap[l]?=some (.loop r))->(∀b,O b->b < W.heap.size)->assign.wpIn (Fence.wide.inRound l) (n - 1 - 1) P (Exit.then (fun Y W₁=>AL O W W₁∧A k Y O W₁) (fun _ _ _=>False))
   {tmps:=(ps.zip xs[k]).foldl (fun t (p,v)=>t.setIfInBounds p v) a.tmps,defers:=[]} W)
 (T:∀k (_:k < xs.length) O W l Y,O l->(∃r,W.heap[l]?=some (.loop r))->(∀b,O b->b < W.heap.size)->A k Y O W->body.wpIn (Fence.wide.inRound l) (n - 1 - 1) P (UP O J Jx Jp k W) Y W)
 (V:own=none->∀D O W,w.heap.size<=D->O D->J xs.length O W->W.heap[D]?=some (.deferred (some []))->Q .normal {a with defers:={target:=.collected D,args:=#[]}::a.defers} W)
 (S:∀D c O W,w.heap.size<=D->O D->Jx c O W->W.heap[D]?=some (.deferred (some []))->c.wpIn Fence.wide n P Q {a with defers:={target:=.collected D,args:=#[]}::a.defers} W)
 (M:∀D y O W,w.heap.size<=D->O D->Jp y O W->W.heap[D]?=some (.deferred (some []))->Q (.panic y) {a with defers:={target:=.collected D,args:=#[]}::a.defers} W):
  FE f P (Code.rangeFunc g ps assign body) Q a w:=by
 refine GQ (n:=n) ?_
 obtain ⟨j,o⟩:∃j:LoopState->Option Code->Loop,j=fun st pe=>{state:=st,pending:=pe,fn:=f,tmps:=a.tmps,params:=ps,assign,body,defers:=w.heap.size}:=⟨_,rfl⟩
 obtain ⟨z,H⟩:∃z,(w.alloc (.deferred (some []))).alloc (.loop (j .ready none))=z:=⟨_,rfl⟩
 have ak:z.heap.size=w.heap.size+2:=by rw[<-H];simp
 have ai:z.heap[w.heap.size+1]?=some (.loop (j .ready none)):=by
  rw[<-H];have:=World.alloc_heap_new (w.alloc (.deferred (some []))) (.loop (j .ready none));rwa [z8] at this
 have ae:z.heap[w.heap.size]?=some (.deferred (some [])):=by
  rw[<-H];exact (yD _ _ _ (by simp)).trans (World.alloc_heap_new w _)
 have ah:J 0 (fun b=>False∨b=w.heap.size∨b=w.heap.size+1) z:=by
  rw[<-H]
  refine hJ 0 _ w _ _ h0 (by simp;omega) rfl rfl rfl (fun b _ hb=>?_) (fun b hb=>.inr ?_)
  ·rw[yD _ _ _ (by simp;omega),yD _ _ _ hb]
  ·rcases hb with hb|rfl|rfl
   ·exact hb.elim
   ·exact yf _
   ·omega
 refine ⟨w.heap.size+1,[{target:=.collected w.heap.size,args:=#[]}],z,{target:=.fn (.func gf) lb,args:=#[.func (.yield (w.heap.size+1)) #[] #[]]},z,gf,
  #[.func (.yield (w.heap.size+1)) #[] #[]]++lb,z,?_,?_,?_,?_⟩
 ·rw[<-H,o];exact run_enterLoop_outer _ _ _ _ _
 ·simp only[resolve,hg]
  simp[go_sem]
 ·simp[invoke,go_sem,eg]
 generalize hD:w.heap.size=D at*
 generalize hl:D+1=l at*
 have am:D < l:=by omega
 refine (a7 l
  (fun k O W=>J k (fun b=>O b∨b=D∨b=l) W∧W.heap[l]?=some (.loop (j .ready none))∧W.heap[D]?=some (.deferred (some []))∧(∀b,O b->z.heap.size<=b)∧z.heap.size<=W.heap.size)
  (fun O W=>∃c,Jx c (fun b=>O b∨b=D∨b=l) W∧W.heap[l]?=some (.loop (j .done (some c)))∧W.heap[D]?=some (.deferred (some []))∧(∀b,O b->z.heap.size<=b)∧z.heap.size<=W.heap.size)
  (fun y O W=>Jp y (fun b=>O b∨b=D∨b=l) W∧W.heap[D]?=some (.deferred (some []))∧(∀b,O b->z.heap.size<=b)∧z.heap.size<=W.heap.size) z ?_ ?_ ?_ ?_ ?_ ?_ ?_ ⟨ah,ai,ae,fun b hb=>hb.elim,yf _⟩).mono ?_
 ·rintro k O W O' W' ⟨h1,h2,h3,q,h5⟩ Z X ht hu i R
  refine ⟨hJ k _ W _ W' h1 Z X ht hu (fun b hb C=>i b (fun h=>hb (.inl h)) C) (fun b hb=>?_),?_,?_,fun b hb=>?_,by omega⟩
  ·rcases hb with hb|hb
   ·rcases R b hb with h|h
    ·exact .inl (.inl h)
    ·exact .inr h
   ·exact .inl (.inr hb)
  ·exact (i l (fun h=>by have:=q l h;omega) (yd.1 h2).1).trans h2
  ·exact (i D (fun h=>by have:=q D h;omega) (yd.1 h3).1).trans h3
  ·rcases R b hb with h|h
   ·exact q b h
   ·omega
 ·rintro _ O W O' W' ⟨c,h1,h2,h3,q,h5⟩ Z X ht hu i R
  refine ⟨c,G c () _ W _ W' h1 Z X ht hu (fun b hb C=>i b (fun h=>hb (.inl h)) C) (fun b hb=>?_),?_,?_,fun b hb=>?_,by omega⟩
  ·rcases hb with hb|hb
   ·rcases R b hb with h|h
    ·exact .inl (.inl h)
    ·exact .inr h
   ·exact .inl (.inr hb)
  ·exact (i l (fun h=>by have:=q l h;omega) (yd.1 h2).1).trans h2
  ·exact (i D (fun h=>by have:=q D h;omega) (yd.1 h3).1).trans h3
  ·rcases R b hb with h|h
   ·exact q b h
   ·omega
 ·rintro y _ O W O' W' ⟨h1,h3,q,h5⟩ Z X ht hu i R
  refine ⟨ad y () _ W _ W' h1 Z X ht hu (fun b hb C=>i b (fun h=>hb (.inl h)) C) (fun b hb=>?_),?_,fun b hb=>?_,by omega⟩
  ·rcases hb with hb|hb
   ·rcases R b hb with h|h
    ·exact .inl (.inl h)
    ·exact .inr h
   ·exact .inl (.inr hb)
  ·exact (i D (fun h=>by have:=q D h;omega) (yd.1 h3).1).trans h3
  ·rcases R b hb with h|h
   ·exact q b h
   ·omega
 ·exact fun k O W h=>aj k _ W h.1
 ·exact fun O W h=>h.elim fun c h=>a2 c _ W h.1
 ·exact fun y he O W h=>⟨aa y he _ W h.1,h.2.2.1,h.2.2.2.1,h.2.2.2.2⟩
 ·
  rintro k hk O W ⟨h1,h2,h3,q,h5⟩ Z ag
  have hy:=run_yield (P:=P) (args:=xs[k]) h2 (by rw[o];exact ac _ (yM hk))
  rw[o] at hy
  have a8:∀b,(O b∨b=D∨b=l)->b < W.heap.size:=fun b hb=>by
   rcases hb with hb|hb|hb
   ·exact (ag b hb).2
   ·rw[hb];exact (yd.1 h3).1
   ·rw[hb];exact (yd.1 h2).1
  refine ⟨f,_,assign,body,hy,FP hf trivial (wpIn_mono (F k hk _ W l h1 (.inr (.inr rfl)) ⟨_,h2⟩ a8) ?_)⟩
  clear hy
  rintro e Y Wa E
  cases e with
  |normal=>
   obtain ⟨hs,af⟩:=E
   have I:=(hs.2 l (.inr (.inr rfl))).trans h2
   have N:=(hs.2 D (.inr (.inl rfl))).trans h3
   have C:=(yd.1 I).1
   refine ⟨_,run_beginRound I (by rw[o]),?_⟩
   have a0:(Wa.putObj l (.loop {j .ready none with state:=.busy})).heap[l]?=some (.loop {j .ready none with state:=.busy}):=World.putObj_heap_same C
   have a6:(Wa.putObj l (.loop {j .ready none with state:=.busy})).heap[D]?=some (.deferred (some [])):=(World.putObj_heap_other (by omega)).trans N
   refine wpIn_mono (T k hk _ _ l Y (.inr (.inr rfl)) ⟨_,a0⟩ (fun b hb=>by have:=a8 b hb;have:=hs.1;simp;omega) ((hA Y).put (.inr (.inr rfl)) _ af)) ?_
   have K:∀(d:Option Code) (B:World),AL (fun b=>O b∨b=D∨b=l) (Wa.putObj l (.loop {j .ready none with state:=.busy})) B->
     (Instr.endRound l d).run P B=.ok (.bool d.isNone) (B.putObj l (.loop (j (if d.isNone then .ready else .done) d)))∧
     (B.putObj l (.loop (j (if d.isNone then .ready else .done) d))).heap[l]?=some (.loop (j (if d.isNone then .ready else .done) d))∧
     (B.putObj l (.loop (j (if d.isNone then .ready else .done) d))).heap[D]?=some (.deferred (some []))∧
     z.heap.size<=(B.putObj l (.loop (j (if d.isNone then .ready else .done) d))).heap.size∧
     AL O W (B.putObj l (.loop (j (if d.isNone then .ready else .done) d))):=fun d B m=>by
    have ab:=(m.2 l (.inr (.inr rfl))).trans a0
    have hr:=run_endRound (P:=P) d ab
    rw[o] at hr ⊢
    have z1:=hs.1
    have z3:Wa.heap.size<=B.heap.size:=by have:=m.1;simpa using this
    refine ⟨hr,World.putObj_heap_same (yd.1 ab).1,(World.putObj_heap_other (by omega)).trans ((m.2 D (.inr (.inl rfl))).trans a6),by simp;omega,by simp;omega,fun b hb=>?_⟩
    have L:b≠l:=fun e=>by have:=q b hb;subst e;omega
    rw[World.putObj_heap_other L,m.2 b (.inl hb),World.putObj_heap_other L,hs.2 b (.inl hb)]
   rintro e a3 B E
   cases e with
   |normal=>
    obtain ⟨m,u⟩:=E
    obtain ⟨hr,g1,I,N,U⟩:=K none B m
    exact ⟨_,_,hr,.inl ⟨rfl,⟨hJ.put (.inr (.inr rfl)) _ u,g1,I,q,N⟩,U⟩⟩
   |ret=>
    obtain ⟨m,u⟩:=E
    obtain ⟨hr,g1,I,N,U⟩:=K (some .ret) B m
    exact ⟨_,_,hr,.inr (.inl ⟨rfl,⟨.ret,(G .ret).put (s:=()) (.inr (.inr rfl)) _ u,g1,I,q,N⟩,U⟩)⟩
   |exit id=>
    obtain ⟨m,u⟩:=E
    obtain ⟨hr,g1,I,N,U⟩:=K (some (.exit id)) B m
    exact ⟨_,_,hr,.inr (.inl ⟨rfl,⟨.exit id,(G (.exit id)).put (s:=()) (.inr (.inr rfl)) _ u,g1,I,q,N⟩,U⟩)⟩
   |goto t=>
    obtain ⟨m,u⟩:=E
    obtain ⟨hr,g1,I,N,U⟩:=K (some (.goto t)) B m
    exact ⟨_,_,hr,.inr (.inl ⟨rfl,⟨.goto t,(G (.goto t)).put (s:=()) (.inr (.inr rfl)) _ u,g1,I,q,N⟩,U⟩)⟩
   |panic y=>
    obtain ⟨hd,m,u⟩:=E
    have z1:=hs.1
    have z3:Wa.heap.size<=B.heap.size:=by have:=m.1;simpa using this
    refine ⟨hd,.inr (.inr ⟨y,rfl,⟨u,(m.2 D (.inr (.inl rfl))).trans a6,q,by omega⟩,by omega,fun b hb=>?_⟩)⟩
    have L:b≠l:=fun e=>by have:=q b hb;subst e;omega
    rw[m.2 b (.inl hb),World.putObj_heap_other L,hs.2 b (.inl hb)]
   |outgrown=>exact E.elim
  |exit id=>exact E.elim
  |goto t=>exact E.elim
  |ret=>exact E.elim
  |panic y=>exact E.elim
  |outgrown=>exact E.elim
 ·
  rintro e W2 (⟨⟨v,rfl⟩,(⟨X,O,h1,h2,h3,q,h5⟩|⟨O,c,h1,h2,h3,q,h5⟩)⟩|⟨y,rfl,O,h1,h2,q,h5⟩)
  ·exact ⟨none,_,by have:=run_endLoop (P:=P) h2 (by rw[o];simp);rw[o] at this;exact this,V X D _ _ (yf _) (.inr (.inl rfl)) (hJ.put (.inr (.inr rfl)) _ h1) ((World.putObj_heap_other (by omega)).trans h3)⟩
  ·exact ⟨some c,_,by have:=run_endLoop (P:=P) h2 (by rw[o];simp);rw[o] at this;exact this,S D c _ _ (yf _) (.inr (.inl rfl)) ((G c).put (s:=()) (.inr (.inr rfl)) _ h1) ((World.putObj_heap_other (by omega)).trans h3)⟩
  ·exact M D y _ W2 (yf _) (.inr (.inl rfl)) h1 h2
theorem Ba{f:FuncId}{fn:Func}{c:Code}{args:Array Value}{w:World}{R:Ending->World->Prop}(t:P.funcs[f]?=some fn)(hb:fn.body=some c)
 (h:FE f P c (bodyPostM Fence.wide n P fn R) {tmps:=args++Array.replicate (fn.ntmps - args.size) undef,defers:=[]} w):Calls P f args w R:=by
 refine (z6 (n:=n)).1 ⟨trivial,fun cs hr=>?_⟩
 let b:Frame:={(default:Frame) with fn:=f,kind:=.normal,roundOf:=none}
 have k:Frame.enter P f args .normal=
   b.atR {tmps:=args++Array.replicate (fn.ntmps - args.size) undef,defers:=[]} [.code c]:=by
  simp[Frame.enter,Frame.atR,t,hb,b]
 obtain ⟨e,o,w',p,a⟩:=h b [] cs rfl rfl
 rw[<-k] at a
 cases e with
 |normal=>
  obtain ⟨q,i,g,s,hs,d,r⟩:=leaves_stepsInM o.defers .returning w' {b.atR o [] with mode:=.returning} cs rfl rfl rfl t rfl trivial hr p
  exact ⟨q,i,g,s,ComesIn.of_steps (zM a (.one (xM _ _) (stepR_end rfl))) hs,d,r⟩
 |ret=>
  obtain ⟨j,m⟩:=a.1 rfl
  obtain ⟨q,i,g,s,hs,d,r⟩:=leaves_stepsInM o.defers .returning w' {b.atR o j with mode:=.returning} cs rfl rfl rfl t rfl trivial hr p
  exact ⟨q,i,g,s,ComesIn.of_steps m hs,d,r⟩
 |panic chain=>
  obtain ⟨j,m⟩:=a
  obtain ⟨q,i,g,s,hs,d,r⟩:=leaves_stepsInM o.defers (.panicking chain) w' {b.atR o j with mode:=.panicking chain} cs rfl rfl rfl t rfl trivial hr p
  exact ⟨q,i,g,s,ComesIn.of_steps m hs,d,r⟩
 |exit id=>exact p.elim
 |goto l=>exact p.elim
 |outgrown=>exact ⟨.outgrown,w',b,p,a.resolve_left (by simp[b]),rfl,trivial⟩
end Go.Proofs.YtjofgpfocadomaaGreatDoor
namespace Go.Proofs.YtjofgpfocadomaaGreatDoor
open Go.RowKit
inductive Ex where
 |mk (op n u:Int) (rn:ByteArray) (ri:Int) (args:List Ex)
namespace Ex
def op:Ex->Int|.mk o _ _ _ _ _=>o
def n:Ex->Int|.mk _ n _ _ _ _=>n
def u:Ex->Int|.mk _ _ u _ _ _=>u
def rn:Ex->ByteArray|.mk _ _ _ r _ _=>r
def ri:Ex->Int|.mk _ _ _ _ i _=>i
def args:Ex->List Ex|.mk _ _ _ _ _ l=>l
end Ex
mutual
def AG(N:NP)(w:World):Ex->LV->Prop
 |.mk op n u rn ri args,cs=>∃a cap,cs=[.int .i64 op,.int .i64 n,.int .i64 u,.string rn,.int .i64 ri,.slice a args.length cap]∧args.length<=140737488355328∧rn.size<=maxLen∧D8 N w a 0 args
def D8(N:NP)(w:World)(a:Option Addr):Nat->List Ex->Prop
 |_,[]=>True
 |i,e::r=>(∃b o cs,a=some ⟨b,o,none⟩∧N b∧w.rangeAt b (o+i*6) cs∧AG N w e cs)∧D8 N w a (i+1) r
end
def Sz(N:NP)(w:World)(v:Value)(l:List Ex):Prop:=∃a cap,v=.slice a l.length cap∧l.length<=140737488355328∧D8 N w a 0 l
theorem Du{N:NP}{w:World}{a:Option Addr}:∀ {l:List Ex} {k:Nat},D8 N w a k l->∀i (h:i < l.length),∃b o cs,a=some ⟨b,o,none⟩∧N b∧w.rangeAt b (o+(k+i)*6) cs∧AG N w l[i] cs
 |[],_,_,i,h=>by simp at h
 |e::r,k,hr,i,h=>by
  rw[D8] at hr
  cases i with
  |zero=>exact hr.1
  |succ i=>
   obtain ⟨b,o,cs,h1,h2,h3,c⟩:=Du hr.2 i (by simpa using h)
   exact ⟨b,o,cs,h1,h2,by rw[show k+(i+1)=k+1+i by omega];exact h3,by simpa using c⟩
theorem Qu{N:NP}{w:World}{a:Option Addr}:∀ {l:List Ex} {k:Nat},(∀i (h:i < l.length),∃b o cs,a=some ⟨b,o,none⟩∧N b∧w.rangeAt b (o+(k+i)*6) cs∧AG N w l[i] cs)->D8 N w a k l
 |[],_,_=>by rw[D8];trivial
 |e::r,k,h=>by
  rw[D8]
  refine ⟨h 0 (by simp),Qu fun i hi=>?_⟩
  obtain ⟨b,o,cs,h1,h2,h3,c⟩:=h (i+1) (by simpa using hi)
  exact ⟨b,o,cs,h1,h2,by rw[show k+1+i=k+(i+1) by omega];exact h3,by simpa using c⟩
theorem A0{w w':World}{b o:Nat}{cs:LV}(h:w.rangeAt b o cs)(hb:w'.heap[b]?=w.heap[b]?):w'.rangeAt b o cs:=fun j v a=>by
 have:=h j v a
 unfold World.cell? at this ⊢
 rw[hb];exact this
mutual
theorem AG.same{N N':NP}{w w':World}(c:∀b,N b->N' b)(hb:∀b,N b->w'.heap[b]?=w.heap[b]?):∀ {e:Ex} {cs:LV},AG N w e cs->AG N' w' e cs
 |.mk _ _ _ _ _ args,_,h=>by
  rw[AG] at h ⊢
  obtain ⟨a,cap,h1,h2,h3,d⟩:=h
  exact ⟨a,cap,h1,h2,h3,D8.same c hb d⟩
theorem D8.same{N N':NP}{w w':World}{a:Option Addr}(c:∀b,N b->N' b)(hb:∀b,N b->w'.heap[b]?=w.heap[b]?):∀ {l:List Ex} {k:Nat},D8 N w a k l->D8 N' w' a k l
 |[],_,h=>by rw[D8];trivial
 |e::r,k,h=>by
  rw[D8] at h ⊢
  obtain ⟨⟨b,o,cs,h1,h2,h3,d⟩,h5⟩:=h
  exact ⟨⟨b,o,cs,h1,c b h2,A0 h3 (hb b h2),AG.same c hb d⟩,D8.same c hb h5⟩
end
theorem Sz.same{N N':NP}{w w':World}{v:Value}{l:List Ex}(c:∀b,N b->N' b)(hb:∀b,N b->w'.heap[b]?=w.heap[b]?)(h:Sz N w v l):Sz N' w' v l:=by
 obtain ⟨a,cap,h1,h2,h3⟩:=h
 exact ⟨a,cap,h1,h2,D8.same c hb h3⟩
mutual
def Ar:Ex->Nat
 |.mk _ _ _ _ _ args=>AN args
def AN:List Ex->Nat
 |[]=>0
 |e::r=>max (1+Ar e) (AN r)
end
mutual
theorem J3{P:Ex->Prop}(h:∀op n u rn ri args,(∀e∈args,P e)->P (.mk op n u rn ri args)):∀e,P e
 |.mk op n u rn ri args=>h op n u rn ri args (Qv h args)
theorem Qv{P:Ex->Prop}(h:∀op n u rn ri args,(∀e∈args,P e)->P (.mk op n u rn ri args)):∀l:List Ex,∀e∈l,P e
 |[]=>fun _ a=>by simp at a
 |x::r=>fun e a=>(yI.1 a).elim (fun q=>q▸J3 h x) (Qv h r e)
end
theorem Jw:∀(l:List Ex) (e:Ex),AN (l++[e])=max (AN l) (1+Ar e)
 |[],e=>by simp[AN]
 |x::r,e=>by
  rw[yP,AN,AN,Jw r e,Nat.max_assoc]
theorem Jy{l:List Ex}{i:Nat}(h:i < l.length):AN (l.take (i+1))=max (AN (l.take i)) (1+Ar l[i]):=by
 rw[yJ h,Jw]
theorem J4:∀(l:List Ex) (i:Nat),AN (l.take i)<=AN l
 |[],i=>by simp
 |x::r,0=>by simp[AN]
 |x::r,i+1=>by
  rw[List.take_succ_cons,AN,AN]
  have:=J4 r i
  omega
theorem Pk{l:List Ex}{i:Nat}(h:i < l.length):1+Ar l[i]<=AN l:=by
 have h1:=Jy h
 have h2:=J4 l (i+1)
 omega
theorem AG.cells{N:NP}{w:World}{e:Ex}{cs:LV}(h:AG N w e cs):∃a cap,cs=[.int .i64 e.op,.int .i64 e.n,.int .i64 e.u,.string e.rn,.int .i64 e.ri,.slice a e.args.length cap]∧e.args.length<=140737488355328∧e.rn.size<=maxLen∧D8 N w a 0 e.args:=by
 cases e
 rw[AG] at h
 exact h
theorem AG.mk'{N:NP}{w:World}{e:Ex}{a:Option Addr}{cap:Nat}(h1:e.args.length<=140737488355328)(h2:e.rn.size<=maxLen)(h3:D8 N w a 0 e.args):
  AG N w e [.int .i64 e.op,.int .i64 e.n,.int .i64 e.u,.string e.rn,.int .i64 e.ri,.slice a e.args.length cap]:=by
 cases e
 rw[AG]
 exact ⟨a,cap,rfl,h1,h2,h3⟩
theorem Bp{w:World}{b o:Nat}{x0 e a c d f:Value}(h:w.rangeAt b o [x0,e,a,c,d,f]):w.cell? ⟨b,o,none⟩=some x0∧w.cell? ⟨b,o+1,none⟩=some e∧w.cell? ⟨b,o+2,none⟩=some a∧w.cell? ⟨b,o+3,none⟩=some c∧w.cell? ⟨b,o+4,none⟩=some d∧w.cell? ⟨b,o+5,none⟩=some f:=
 ⟨h 0 _ rfl,h 1 _ rfl,h 2 _ rfl,h 3 _ rfl,h 4 _ rfl,h 5 _ rfl⟩
theorem Ek{N:NP}{B:Nat}{w w':World}(hN:∀b,N b->b < B)(hb:Below B w w'):∀b,N b->w'.heap[b]?=w.heap[b]?:=fun b h=>hb.block b (hN b h)
set_option linter.unusedSimpArgs false
theorem GR(n:Int):IntKind.u64.wrap n=n % 18446744073709551616:=by
 unfold IntKind.wrap;simp (decide:=true) [IntKind.signed,IntKind.bits]
theorem FF(n:Int)(h1: -4611686018427387904<=n)(h2:n<=4611686018427387904)(w:World):Calls Tryz.prog 28 #[.int .i64 n] w fun e w'=>e=.returned (.int .u64 (n.natAbs:Int))∧w'=w:=by
 have b:n < 0->IntKind.u64.wrap (-IntKind.u64.wrap n)=(n.natAbs:Int):=by
  intro a;rw[GR,GR];omega
 go_enter Tryz.func28,Tryz.ntmps28
 by_cases a:n < 0
 ·have c:=b a
  go_wp2
  go_ret
  exact ⟨rfl,rfl⟩
 ·clear b
  have hd:decide (n < 0)=false:=by simpa using a
  go_wp2
  go_ret
  exact ⟨yF (fun z=>Ending.returned (Value.int IntKind.u64 z)) (show n=(n.natAbs:Int) by omega),rfl⟩
end Go.Proofs.YtjofgpfocadomaaGreatDoor
namespace Go.Proofs.YtjofgpfocadomaaGreatDoor
open Go.RowKit
variable{F:Fence}{n:Nat}{P:Program}
def Vy(F:Fence)(n:Nat)(P:Program)(g:Nat)(lb:Array Value)(K:NP)(c:World)(Hd:World->Prop)(xs:List (Array Value))(own:Option (List PanicEntry)):Prop:=
 ∀(l:Nat) (J:Nat->NP->World->Prop) (Jx:NP->World->Prop) (Jp:List PanicEntry->NP->World->Prop) (W:World),
  Ca J->Ca (fun (_:Unit)=>Jx)->(∀a,Ca (fun (_:Unit)=>Jp a))->(∀k O W,J k O W->Hd W)->(∀O W,Jx O W->Hd W)->(∀a,own=some a->∀O W,J xs.length O W->Jp a O W)->
  (∀k (d:k < xs.length) O W1,J k O W1->W.heap.size<=W1.heap.size->(∀b,O b->(K b∨W.heap.size<=b)∧b < W1.heap.size)->YieldAt F (n - 1) P l xs[k] W1 fun e W'=>
   (e=.returned (.bool true)∧J (k+1) O W'∧AL O W1 W')∨(e=.returned (.bool false)∧Jx O W'∧AL O W1 W')∨(∃a,e=.panicked a∧Jp a O W'∧AL O W1 W'))->
  (∀b,K b->b < W.heap.size)->AL K c W->J 0 K W->
  CallsIn F n P g (#[.func (.yield l) #[] #[]]++lb) W fun e W'=>
   ((∃v,e=.returned v)∧((own=none∧∃O,J xs.length O W')∨∃O,Jx O W'))∨∃a,e=.panicked a∧∃O,Jp a O W'
theorem NF{f:FuncId}{fn:Func}(hf:P.funcs[f]?=some fn){g:Operand}{ps:Array Tmp}{assign body:Code}{Q:QT}{a:Act}{w:World}
 {gf:Nat}{lb:Array Value}(hg:a.eval g=.func (.func gf) #[] lb)(eg:∀args w,(callFunc gf args).run P w=.ok (.enter gf args) w)
 {Hd:World->Prop}{xs:List (Array Value)}{own:Option (List PanicEntry)}{K:NP}(hK:∀b,K b->b < w.heap.size)(a7:Vy Fence.wide (n - 1) P gf lb K w Hd xs own)(ac:∀x∈xs,x.size=ps.size)
 (J:Nat->NP->World->Prop)(Jx:Code->NP->World->Prop)(Jp:List PanicEntry->NP->World->Prop)(A:Nat->Act->NP->World->Prop)
 (hJ:Ca J)(I:∀c,Ca (fun (_:Unit)=>Jx c))(ad:∀y,Ca (fun (_:Unit)=>Jp y))(hA:∀a,Ca (fun k=>A k a))(ak:∀k O W,J k O W->Hd W)(a2:∀c O W,Jx c O W->Hd W)(aa:∀y,own=some y->∀O W,J xs.length O W->Jp y O W)
 (h0:J 0 K w)
 (H:∀k (hk:k < xs.length) O W l,J k O W->O l->(∃r,W.heap[l]?=some (.loop r))->(∀b,O b->b < W.heap.size)->assign.wpIn (Fence.wide.inRound l) (n - 1 - 1) P (Exit.then (fun a₁ W₁=>AL O W W₁∧A k a₁ O W₁) (fun _ _ _=>False))
   {tmps:=(ps.zip xs[k]).foldl (fun t (p,v)=>t.setIfInBounds p v) a.tmps,defers:=[]} W)
 (V:∀k (_:k < xs.length) O W l a₁,O l->(∃r,W.heap[l]?=some (.loop r))->(∀b,O b->b < W.heap.size)->A k a₁ O W->body.wpIn (Fence.wide.inRound l) (n - 1 - 1) P (UP O J Jx Jp k W) a₁ W)
 (Y:own=none->∀D O W,w.heap.size<=D->O D->J xs.length O W->W.heap[D]?=some (.deferred (some []))->Q .normal {a with defers:={target:=.collected D,args:=#[]}::a.defers} W)
 (U:∀D c O W,w.heap.size<=D->O D->Jx c O W->W.heap[D]?=some (.deferred (some []))->c.wpIn Fence.wide n P Q {a with defers:={target:=.collected D,args:=#[]}::a.defers} W)
 (R:∀D y O W,w.heap.size<=D->O D->Jp y O W->W.heap[D]?=some (.deferred (some []))->Q (.panic y) {a with defers:={target:=.collected D,args:=#[]}::a.defers} W):
  FE f P (Code.rangeFunc g ps assign body) Q a w:=by
 refine GQ (n:=n) ?_
 obtain ⟨j,o⟩:∃j:LoopState->Option Code->Loop,j=fun st pe=>{state:=st,pending:=pe,fn:=f,tmps:=a.tmps,params:=ps,assign,body,defers:=w.heap.size}:=⟨_,rfl⟩
 obtain ⟨z,G⟩:∃z,(w.alloc (.deferred (some []))).alloc (.loop (j .ready none))=z:=⟨_,rfl⟩
 have am:z.heap.size=w.heap.size+2:=by rw[<-G];simp
 have aj:z.heap[w.heap.size+1]?=some (.loop (j .ready none)):=by
  rw[<-G];have:=World.alloc_heap_new (w.alloc (.deferred (some []))) (.loop (j .ready none));rwa [z8] at this
 have ae:z.heap[w.heap.size]?=some (.deferred (some [])):=by
  rw[<-G];exact (yD _ _ _ (by simp)).trans (World.alloc_heap_new w _)
 have ai:J 0 (fun b=>K b∨b=w.heap.size∨b=w.heap.size+1) z:=by
  rw[<-G]
  refine hJ 0 _ w _ _ h0 (by simp;omega) rfl rfl rfl (fun b _ hb=>?_) (fun b hb=>?_)
  ·rw[yD _ _ _ (by simp;omega),yD _ _ _ hb]
  ·rcases hb with hb|rfl|rfl
   ·exact .inl hb
   ·exact .inr (yf _)
   ·exact .inr (by omega)
 have ag:AL K w z:=by
  rw[<-G]
  exact ⟨by simp;omega,fun b hb=>by rw[yD _ _ _ (by have:=hK b hb;simp;omega),yD _ _ _ (hK b hb)]⟩
 refine ⟨w.heap.size+1,[{target:=.collected w.heap.size,args:=#[]}],z,{target:=.fn (.func gf) lb,args:=#[.func (.yield (w.heap.size+1)) #[] #[]]},z,gf,
  #[.func (.yield (w.heap.size+1)) #[] #[]]++lb,z,?_,?_,?_,?_⟩
 ·rw[<-G,o];exact run_enterLoop_outer _ _ _ _ _
 ·simp only[resolve,hg]
  simp[go_sem]
 ·simp[invoke,go_sem,eg]
 generalize hD:w.heap.size=D at*
 generalize hl:D+1=l at*
 have an:D < l:=by omega
 have B:∀b,K b->b < D:=hK
 refine (a7 l
  (fun k O W=>J k (fun b=>O b∨b=D∨b=l) W∧W.heap[l]?=some (.loop (j .ready none))∧W.heap[D]?=some (.deferred (some []))∧(∀b,O b->K b∨z.heap.size<=b)∧z.heap.size<=W.heap.size)
  (fun O W=>∃c,Jx c (fun b=>O b∨b=D∨b=l) W∧W.heap[l]?=some (.loop (j .done (some c)))∧W.heap[D]?=some (.deferred (some []))∧(∀b,O b->K b∨z.heap.size<=b)∧z.heap.size<=W.heap.size)
  (fun y O W=>Jp y (fun b=>O b∨b=D∨b=l) W∧W.heap[D]?=some (.deferred (some []))∧(∀b,O b->K b∨z.heap.size<=b)∧z.heap.size<=W.heap.size) z ?_ ?_ ?_ ?_ ?_ ?_ ?_ (fun b hb=>by have:=B b hb;omega) ag ⟨ai,aj,ae,fun b hb=>.inl hb,yf _⟩).mono ?_
 ·rintro k O W O' W' ⟨h1,h2,h3,q,h5⟩ hz Z ht hu i T
  refine ⟨hJ k _ W _ W' h1 hz Z ht hu (fun b hb E=>i b (fun h=>hb (.inl h)) E) (fun b hb=>?_),?_,?_,fun b hb=>?_,by omega⟩
  ·rcases hb with hb|hb
   ·rcases T b hb with h|h
    ·exact .inl (.inl h)
    ·exact .inr h
   ·exact .inl (.inr hb)
  ·exact (i l (fun h=>by have:=q l h;have:=B l;grind) (yd.1 h2).1).trans h2
  ·exact (i D (fun h=>by have:=q D h;have:=B D;grind) (yd.1 h3).1).trans h3
  ·rcases T b hb with h|h
   ·exact q b h
   ·exact .inr (by omega)
 ·rintro _ O W O' W' ⟨c,h1,h2,h3,q,h5⟩ hz Z ht hu i T
  refine ⟨c,I c () _ W _ W' h1 hz Z ht hu (fun b hb E=>i b (fun h=>hb (.inl h)) E) (fun b hb=>?_),?_,?_,fun b hb=>?_,by omega⟩
  ·rcases hb with hb|hb
   ·rcases T b hb with h|h
    ·exact .inl (.inl h)
    ·exact .inr h
   ·exact .inl (.inr hb)
  ·exact (i l (fun h=>by have:=q l h;have:=B l;grind) (yd.1 h2).1).trans h2
  ·exact (i D (fun h=>by have:=q D h;have:=B D;grind) (yd.1 h3).1).trans h3
  ·rcases T b hb with h|h
   ·exact q b h
   ·exact .inr (by omega)
 ·rintro y _ O W O' W' ⟨h1,h3,q,h5⟩ hz Z ht hu i T
  refine ⟨ad y () _ W _ W' h1 hz Z ht hu (fun b hb E=>i b (fun h=>hb (.inl h)) E) (fun b hb=>?_),?_,fun b hb=>?_,by omega⟩
  ·rcases hb with hb|hb
   ·rcases T b hb with h|h
    ·exact .inl (.inl h)
    ·exact .inr h
   ·exact .inl (.inr hb)
  ·exact (i D (fun h=>by have:=q D h;have:=B D;grind) (yd.1 h3).1).trans h3
  ·rcases T b hb with h|h
   ·exact q b h
   ·exact .inr (by omega)
 ·exact fun k O W h=>ak k _ W h.1
 ·exact fun O W h=>h.elim fun c h=>a2 c _ W h.1
 ·exact fun y he O W h=>⟨aa y he _ W h.1,h.2.2.1,h.2.2.2.1,h.2.2.2.2⟩
 ·
  rintro k hk O W ⟨h1,h2,h3,q,h5⟩ hz ah
  have hy:=run_yield (P:=P) (args:=xs[k]) h2 (by rw[o];exact ac _ (yM hk))
  rw[o] at hy
  have a8:∀b,(O b∨b=D∨b=l)->b < W.heap.size:=fun b hb=>by
   rcases hb with hb|hb|hb
   ·exact (ah b hb).2
   ·rw[hb];exact (yd.1 h3).1
   ·rw[hb];exact (yd.1 h2).1
  refine ⟨f,_,assign,body,hy,FP hf trivial (wpIn_mono (H k hk _ W l h1 (.inr (.inr rfl)) ⟨_,h2⟩ a8) ?_)⟩
  clear hy
  rintro e a₁ Wa F
  cases e with
  |normal=>
   obtain ⟨hs,af⟩:=F
   have L:=(hs.2 l (.inr (.inr rfl))).trans h2
   have S:=(hs.2 D (.inr (.inl rfl))).trans h3
   have E:=(yd.1 L).1
   refine ⟨_,run_beginRound L (by rw[o]),?_⟩
   have a0:(Wa.putObj l (.loop {j .ready none with state:=.busy})).heap[l]?=some (.loop {j .ready none with state:=.busy}):=World.putObj_heap_same E
   have a6:(Wa.putObj l (.loop {j .ready none with state:=.busy})).heap[D]?=some (.deferred (some [])):=(World.putObj_heap_other (by omega)).trans S
   refine wpIn_mono (V k hk _ _ l a₁ (.inr (.inr rfl)) ⟨_,a0⟩ (fun b hb=>by have:=a8 b hb;have:=hs.1;simp;omega) ((hA a₁).put (.inr (.inr rfl)) _ af)) ?_
   have M:∀(d:Option Code) (C:World),AL (fun b=>O b∨b=D∨b=l) (Wa.putObj l (.loop {j .ready none with state:=.busy})) C->
     (Instr.endRound l d).run P C=.ok (.bool d.isNone) (C.putObj l (.loop (j (if d.isNone then .ready else .done) d)))∧
     (C.putObj l (.loop (j (if d.isNone then .ready else .done) d))).heap[l]?=some (.loop (j (if d.isNone then .ready else .done) d))∧
     (C.putObj l (.loop (j (if d.isNone then .ready else .done) d))).heap[D]?=some (.deferred (some []))∧
     z.heap.size<=(C.putObj l (.loop (j (if d.isNone then .ready else .done) d))).heap.size∧
     AL O W (C.putObj l (.loop (j (if d.isNone then .ready else .done) d))):=fun d C m=>by
    have ab:=(m.2 l (.inr (.inr rfl))).trans a0
    have hr:=run_endRound (P:=P) d ab
    rw[o] at hr ⊢
    have z1:=hs.1
    have z3:Wa.heap.size<=C.heap.size:=by have:=m.1;simpa using this
    refine ⟨hr,World.putObj_heap_same (yd.1 ab).1,(World.putObj_heap_other (by omega)).trans ((m.2 D (.inr (.inl rfl))).trans a6),by simp;omega,by simp;omega,fun b hb=>?_⟩
    have N:b≠l:=fun e=>by have:=q b hb;have:=B b;subst e;grind
    rw[World.putObj_heap_other N,m.2 b (.inl hb),World.putObj_heap_other N,hs.2 b (.inl hb)]
   rintro e a3 C F
   cases e with
   |normal=>
    obtain ⟨m,u⟩:=F
    obtain ⟨hr,g1,L,S,X⟩:=M none C m
    exact ⟨_,_,hr,.inl ⟨rfl,⟨hJ.put (.inr (.inr rfl)) _ u,g1,L,q,S⟩,X⟩⟩
   |ret=>
    obtain ⟨m,u⟩:=F
    obtain ⟨hr,g1,L,S,X⟩:=M (some .ret) C m
    exact ⟨_,_,hr,.inr (.inl ⟨rfl,⟨.ret,(I .ret).put (s:=()) (.inr (.inr rfl)) _ u,g1,L,q,S⟩,X⟩)⟩
   |exit id=>
    obtain ⟨m,u⟩:=F
    obtain ⟨hr,g1,L,S,X⟩:=M (some (.exit id)) C m
    exact ⟨_,_,hr,.inr (.inl ⟨rfl,⟨.exit id,(I (.exit id)).put (s:=()) (.inr (.inr rfl)) _ u,g1,L,q,S⟩,X⟩)⟩
   |goto t=>
    obtain ⟨m,u⟩:=F
    obtain ⟨hr,g1,L,S,X⟩:=M (some (.goto t)) C m
    exact ⟨_,_,hr,.inr (.inl ⟨rfl,⟨.goto t,(I (.goto t)).put (s:=()) (.inr (.inr rfl)) _ u,g1,L,q,S⟩,X⟩)⟩
   |panic y=>
    obtain ⟨hd,m,u⟩:=F
    have z1:=hs.1
    have z3:Wa.heap.size<=C.heap.size:=by have:=m.1;simpa using this
    refine ⟨hd,.inr (.inr ⟨y,rfl,⟨u,(m.2 D (.inr (.inl rfl))).trans a6,q,by omega⟩,by omega,fun b hb=>?_⟩)⟩
    have N:b≠l:=fun e=>by have:=q b hb;have:=B b;subst e;grind
    rw[m.2 b (.inl hb),World.putObj_heap_other N,hs.2 b (.inl hb)]
   |outgrown=>exact F.elim
  |exit id=>exact F.elim
  |goto t=>exact F.elim
  |ret=>exact F.elim
  |panic y=>exact F.elim
  |outgrown=>exact F.elim
 ·
  rintro e W2 (⟨⟨v,rfl⟩,(⟨Z,O,h1,h2,h3,q,h5⟩|⟨O,c,h1,h2,h3,q,h5⟩)⟩|⟨y,rfl,O,h1,h2,q,h5⟩)
  ·exact ⟨none,_,by have:=run_endLoop (P:=P) h2 (by rw[o];simp);rw[o] at this;exact this,Y Z D _ _ (yf _) (.inr (.inl rfl)) (hJ.put (.inr (.inr rfl)) _ h1) ((World.putObj_heap_other (by omega)).trans h3)⟩
  ·exact ⟨some c,_,by have:=run_endLoop (P:=P) h2 (by rw[o];simp);rw[o] at this;exact this,U D c _ _ (yf _) (.inr (.inl rfl)) ((I c).put (s:=()) (.inr (.inr rfl)) _ h1) ((World.putObj_heap_other (by omega)).trans h3)⟩
  ·exact R D y _ W2 (yf _) (.inr (.inl rfl)) h1 h2
end Go.Proofs.YtjofgpfocadomaaGreatDoor
namespace Go.Proofs
open Go.Shelf
def Tryz.lays137_ren:Go.Shelf.Ren:=⟨fun|137=>105|217=>107|266=>111|n=>n,fun|9=>9|5=>5|3=>3|n=>n,fun|n=>n⟩
theorem Tryz.lays137:Go.Proofs.Lays.n137 Tryz.prog Tryz.lays137_ren:={
 mixed:=by kernel_rfl
 f137:=Tryz.func105.trans (congrArg some (by kernel_rfl))
 f217:=Tryz.func107.trans (congrArg some (by kernel_rfl))
 f266:=Tryz.func111.trans (congrArg some (by kernel_rfl))
 t3:=Tryz.underlying3
 a3:=Tryz.isAgg3
 z3:=Tryz.sizeOf3
 v3:=Tryz.zeroValue3
 t5:=Tryz.underlying5
 a5:=Tryz.isAgg5
 z5:=Tryz.sizeOf5
 v5:=Tryz.zeroValue5
 t9:=Tryz.underlying9
 a9:=Tryz.isAgg9
 z9:=Tryz.sizeOf9
 v9:=Tryz.zeroValue9}
open Go.RowKit in
theorem Tryz.strings_IndexByte(s:ByteArray)(c:Int)(w:World):
  Calls Tryz.prog 105 #[.string s,.int .u8 c] w fun e w'=>e=.returned (.int .i64 (Lib.indexByte s.data.toList c.toNat.toUInt8))∧w'=w:=Any.strings_IndexByte Tryz.lays137 s c w
def Tryz.lays144_ren:Go.Shelf.Ren:=⟨fun|144=>81|143=>100|219=>106|217=>107|225=>108|224=>109|267=>110|266=>111|314=>112|n=>n,fun|9=>9|4=>4|3=>3|5=>5|46=>73|146=>194|51=>193|n=>n,fun|1=>6|n=>n⟩
theorem Tryz.lays144:Go.Proofs.Lays.n144 Tryz.prog Tryz.lays144_ren:={
 mixed:=by kernel_rfl
 f143:=Tryz.func100.trans (congrArg some (by kernel_rfl))
 f144:=Tryz.func81.trans (congrArg some (by kernel_rfl))
 f217:=Tryz.func107.trans (congrArg some (by kernel_rfl))
 f219:=Tryz.func106.trans (congrArg some (by kernel_rfl))
 f224:=Tryz.func109.trans (congrArg some (by kernel_rfl))
 f225:=Tryz.func108.trans (congrArg some (by kernel_rfl))
 f266:=Tryz.func111.trans (congrArg some (by kernel_rfl))
 f267:=Tryz.func110.trans (congrArg some (by kernel_rfl))
 f314:=Tryz.func112.trans (congrArg some (by kernel_rfl))
 t3:=Tryz.underlying3
 a3:=Tryz.isAgg3
 z3:=Tryz.sizeOf3
 v3:=Tryz.zeroValue3
 t4:=Tryz.underlying4
 a4:=Tryz.isAgg4
 z4:=Tryz.sizeOf4
 v4:=Tryz.zeroValue4
 t5:=Tryz.underlying5
 a5:=Tryz.isAgg5
 z5:=Tryz.sizeOf5
 v5:=Tryz.zeroValue5
 t9:=Tryz.underlying9
 a9:=Tryz.isAgg9
 z9:=Tryz.sizeOf9
 v9:=Tryz.zeroValue9
 t46:=Tryz.underlying73
 a46:=Tryz.isAgg73
 z46:=Tryz.sizeOf73
 v46:=Tryz.zeroValue73
 t51:=Tryz.underlying193
 a51:=Tryz.isAgg193
 z51:=Tryz.sizeOf193
 v51:=Tryz.zeroValue193
 t146:=Tryz.underlying194
 a146:=Tryz.isAgg194
 z146:=Tryz.sizeOf194
 v146:=Tryz.zeroValue194
 g1:=by kernel_rfl}
open Go.RowKit Go.Lib in
theorem Tryz.strings_Contains(s sub:ByteArray)(m:Int)(w:World)(hs:s.size < 4294967281)(hm:w.cell? ⟨6,0,none⟩=some (.int .i64 m)):
  Calls Tryz.prog 81 #[.string s,.string sub] w fun e w'=>e=.returned (.bool (Lib.contains s.data.toList sub.data.toList))∧w'=w:=Any.strings_Contains Tryz.lays144 s sub m w hs hm
def Tryz.laysM144_ren:Go.Shelf.Ren:=⟨fun|144=>81|143=>100|219=>106|217=>107|225=>108|224=>109|267=>110|266=>111|314=>112|n=>n,fun|9=>9|4=>4|3=>3|5=>5|46=>73|146=>194|51=>193|n=>n,fun|1=>6|n=>n⟩
theorem Tryz.laysM144:Go.Proofs.LaysM.n144 Tryz.prog Tryz.laysM144_ren:={
 mixed:=by kernel_rfl
 f143:=Tryz.func100.trans (congrArg some (by kernel_rfl))
 f144:=Tryz.func81.trans (congrArg some (by kernel_rfl))
 f217:=Tryz.func107.trans (congrArg some (by kernel_rfl))
 f219:=Tryz.func106.trans (congrArg some (by kernel_rfl))
 f224:=Tryz.func109.trans (congrArg some (by kernel_rfl))
 f225:=Tryz.func108.trans (congrArg some (by kernel_rfl))
 f266:=Tryz.func111.trans (congrArg some (by kernel_rfl))
 f267:=Tryz.func110.trans (congrArg some (by kernel_rfl))
 f314:=Tryz.func112.trans (congrArg some (by kernel_rfl))
 t3:=Tryz.underlying3
 a3:=Tryz.isAgg3
 z3:=Tryz.sizeOf3
 v3:=Tryz.zeroValue3
 t4:=Tryz.underlying4
 a4:=Tryz.isAgg4
 z4:=Tryz.sizeOf4
 v4:=Tryz.zeroValue4
 t5:=Tryz.underlying5
 a5:=Tryz.isAgg5
 z5:=Tryz.sizeOf5
 v5:=Tryz.zeroValue5
 t9:=Tryz.underlying9
 a9:=Tryz.isAgg9
 z9:=Tryz.sizeOf9
 v9:=Tryz.zeroValue9
 t46:=Tryz.underlying73
 a46:=Tryz.isAgg73
 z46:=Tryz.sizeOf73
 v46:=Tryz.zeroValue73
 t51:=Tryz.underlying193
 a51:=Tryz.isAgg193
 z51:=Tryz.sizeOf193
 v51:=Tryz.zeroValue193
 t146:=Tryz.underlying194
 a146:=Tryz.isAgg194
 z146:=Tryz.sizeOf194
 v146:=Tryz.zeroValue194
 g1:=by kernel_rfl
 i3:=by kernel_rfl
 i4:=by kernel_rfl
 i5:=by kernel_rfl
 i9:=by kernel_rfl
 i46:=by kernel_rfl
 i51:=by kernel_rfl
 i146:=by kernel_rfl
 m1:=by kernel_rfl
 s1_3:=fun w h=>Go.Proofs.cell_of_shapedOpen_int (zero:=#[.int .i64 0]) (t:=3) h (of_decide_eq_true (by kernel_rfl)) (by kernel_rfl) rfl (by kernel_rfl) (by kernel_rfl) Tryz.underlying3}
end Go.Proofs
namespace Go.Proofs.YtjofgpfocadomaaGreatDoor
open Go.RowKit
theorem Iz{k:IntKind}{a b:Int}(h:a=b):Ending.returned (.int k a)=.returned (.int k b):=by rw[h]
theorem AH{a b:Bool}(h:a=b):Ending.returned (.bool a)=.returned (.bool b):=by rw[h]
theorem Cp(e:Int)(w:World):Calls Tryz.prog 69 #[.bool true,.int .i64 e] w fun x w'=>x=.returned (.tuple #[])∧w'=w:=by
 go_enter Tryz.func69,Tryz.ntmps69
 go_wp2
 go_end0
 exact ⟨rfl,rfl⟩
theorem Ck(e:Int)(w:World):Calls Tryz.prog 69 #[.bool false,.int .i64 e] w fun x w'=>x=.panicked [{v:=.iface 40 (.int .i64 e),recovered:=false}]∧w'=w:=by
 go_enter Tryz.func69,Tryz.ntmps69
 go_wp2
 exact ⟨rfl,rfl,rfl⟩
theorem Ri:∀(e:Ex) {N:NP} {w:World} {cs:LV},AG N w e cs->(∀b,N b->b < w.heap.size)->Ar e<=1000000->
  Calls Tryz.prog 79 #[.agg cs.toArray] w fun x w'=>x=.returned (.int .i64 (Ar e))∧Below w.heap.size w w':=by
 refine J3 fun op nn u rn ri args ih=>?_
 intro N w cs h hN hd
 rw[AG] at h
 obtain ⟨a,cap,rfl,Q,hr,j⟩:=h
 have q:=yb j
 have y:=yb hN
 have O:=yb ih
 have H:Ar (.mk op nn u rn ri args)=AN args:=rfl
 rw[H] at hd ⊢
 have G:=yb hd
 generalize K:args.length=m at Q ⊢
 have I:=yb K
 clear j hN ih H hd K
 go_enter Tryz.func79,Tryz.ntmps79
 go_wp2
 go_loopw [2,8] (fun T F wr=>∃i:Nat,T=iV (AN (args.take i))∧F=iV i∧i<=m∧Hid (Below w.heap.size w wr)) (fun _ F _=>m - (intOf F).toNat)
 case atStart=>exact ⟨0,by simp[AN],rfl,yK _,yb ((yg _ _).alloc (yf _) _)⟩
 case round=>
  obtain ⟨i,rfl,rfl,hi,t⟩:=hrel
  by_cases A:i < m
  ·have f:i < args.length:=by rw[I.o];exact A
   obtain ⟨b,o,cs,rfl,E,l,g⟩:=Du q.o i f
   have v:=AG.same (fun b h=>h) (Ek y.o t.o) g
   have c:=A0 l (t.o.block b (y.o b E))
   obtain ⟨M,s,rfl,_⟩:=g.cells
   rw[yy] at c
   obtain ⟨c0,c1,c2,c3,c4,c5⟩:=Bp c
   have p:=Pk f
   have d:=Jy f
   have z:=J4 args (i+1)
   have L:=yb (fun (W:World) (J:Below w.heap.size w W)=>O.o args[i] (yM f) (AG.same (fun b h=>h) (Ek y.o J) g) (fun b h=>yv (y.o b h) J.size) (by have:=G.o;omega))
   generalize args[i]=x at*
   have k:=yb (t.o.alloc t.o.size (.cells #[iV x.op,iV x.n,iV x.u,.string x.rn,iV x.ri,.slice M x.args.length s] 26))
   have S:(i:Int) < (m:Int):=by omega
   generalize hdx:Ar x=R at p d L ⊢
   have U:=yb hdx
   generalize C:AN (args.take i)=P at d ⊢
   have D:=yb d
   have h1:(R:Int)<=1000000:=by have:=G.o;omega
   have h2:(P:Int)<=1000000:=by have:=G.o;omega
   clear g v l c hdx C p d z
   go_wp2_with fail
   refine (L.o _ k.o).mono ?_
   rintro e w2 ⟨rfl,r⟩
   have B:=yb (k.o.trans (r.mono k.o.size))
   clear r
   go_wp2
   refine ⟨⟨i+1,?_,by go_num,by omega,B⟩,by simp[intOf];omega⟩
   rw[D.o]
   congr 1
   first|(split<;>omega)|omega
  ·obtain rfl:i=m:=by omega
   go_wp2
   go_ret
   refine ⟨Iz (by rw[<-I.o,yT]),t.o⟩
def CI(c:UInt8):Bool:=(97<=c.toNat&&c.toNat<=122)||(65<=c.toNat&&c.toNat<=90)
def J5(c:UInt8):Bool:=48<=c.toNat&&c.toNat<=57
def Km(c:UInt8):Bool:=c.toNat==32||c.toNat==9||c.toNat==10||c.toNat==13
def Fs(c:UInt8):Bool:=CI c||J5 c||c.toNat==95
def SA:List UInt8:=[123,125,40,41,59,44,61,58,46,60,62,33,43,45,42,47]
def Qw(c:UInt8):Bool:=SA.contains c
def Cn(c:UInt8):Int:=if CI c then 2 else if J5 c then 3 else if c.toNat==95 then 5 else if Km c then 1 else if Qw c then 4 else 0
theorem MK{c:UInt8}(h:(97<=c.toNat∧c.toNat<=122)∨(65<=c.toNat∧c.toNat<=90)):Cn c=2:=by
 have:CI c=true:=by simp[CI];omega
 simp[Cn,this]
theorem nl{c:UInt8}(h:¬ ((97<=c.toNat∧c.toNat<=122)∨(65<=c.toNat∧c.toNat<=90))):CI c=false:=by
 rw[yn];simp[CI];omega
theorem NG{c:UInt8}(h:48<=c.toNat∧c.toNat<=57):Cn c=3:=by
 have:J5 c=true:=by simp[J5];omega
 simp[Cn,this,nl (c:=c) (by omega)]
theorem nd{c:UInt8}(h:¬ (48<=c.toNat∧c.toNat<=57)):J5 c=false:=by
 rw[yn];simp[J5];omega
theorem Pl{c:UInt8}(h:c.toNat=95):Cn c=5:=by
 simp[Cn,nd (c:=c) (by omega),nl (c:=c) (by omega),h]
theorem NH{c:UInt8}(h:c.toNat=32∨c.toNat=9∨c.toNat=10∨c.toNat=13):Cn c=1:=by
 have:Km c=true:=by simp[Km];omega
 have h2:(c.toNat==95)=false:=by rw[yn];simp;omega
 simp[Cn,nd (c:=c) (by omega),nl (c:=c) (by omega),h2,this]
theorem Pm{c:UInt8}(h:¬ ((97<=c.toNat∧c.toNat<=122)∨(65<=c.toNat∧c.toNat<=90)))(h1:¬ (48<=c.toNat∧c.toNat<=57))(h2:¬ c.toNat=95)
 (h3:¬ (c.toNat=32∨c.toNat=9∨c.toNat=10∨c.toNat=13)):Cn c=if Qw c then 4 else 0:=by
 have a:Km c=false:=by rw[yn];simp[Km];omega
 simp[Cn,nd h1,nl h,h2,a]
theorem SB(c:UInt8):(decide (0<=Lib.indexByte SA ((c.toNat:Int)).toNat.toUInt8))=Qw c:=by
 have:((c.toNat:Int)).toNat.toUInt8=c:=by simp
 rw[this];exact (Lib.contains_iff_indexByte SA c).symm
theorem Pn(c:UInt8)(w:World):Calls Tryz.prog 105 #[.string {data:=#[123,125,40,41,59,44,61,58,46,60,62,33,43,45,42,47]},.int .u8 (c.toNat:Int)] w fun e w'=>∃n:Int,e=.returned (.int .i64 n)∧decide (0<=n)=Qw c∧w=w':=
 (Tryz.strings_IndexByte _ _ w).mono fun _ _ h=>⟨_,h.1,SB c,h.2.symm⟩
theorem Hl(c:UInt8)(w:World):
  Calls Tryz.prog 99 #[.int .u8 (c.toNat:Int)] w fun e w'=>e=.returned (.int .i64 (Cn c))∧w=w':=by
 generalize hN:Cn c=N
 have d:=yb hN;clear hN
 go_enter Tryz.func99,Tryz.ntmps99
 go_wp2_with (first|(go_at_call 105;refine (Pn _ _).mono ?_;rintro e w' ⟨n,rfl,a,rfl⟩;have b:=yb a;clear a))
 all_goals
  go_ret
  refine ⟨Iz ?_,rfl⟩
  rw[<-d.o]
  try simp only[qr,beq_eq_false_iff_ne,ne_eq] at*
  first
  |exact (MK (by omega)).symm
  |exact (NG (by omega)).symm
  |exact (Pl (by omega)).symm
  |exact (NH (by omega)).symm
  |(rw[Pm (by omega) (by omega) (by omega) (by omega),<-b.o];simp[*])
def FQ:List UInt8->Bool
 |[]=>false
 |c::r=>decide ((c::r).length<=32)&&CI c&&(c::r).all Fs
theorem Rj(s:ByteArray)(k:Nat)(h:k < s.size):s.data.toList.take (k+1)=s.data.toList.take k++[s[k]]:=by
 rw[yJ (by simpa using h)];rfl
theorem FG(s:ByteArray):s.data.toList.length=s.size:=by simp
theorem GS{s:ByteArray}(h:0 < s.size):FQ s.data.toList=(decide (s.size<=32)&&CI (s[0])&&s.data.toList.all Fs):=by
 obtain ⟨⟨l⟩⟩:=s
 cases l with
 |nil=>simp[ByteArray.size] at h
 |cons c r=>rfl
theorem NI{s:ByteArray}(h:¬ 0 < s.size):FQ s.data.toList=false:=by
 obtain ⟨⟨l⟩⟩:=s
 cases l with
 |nil=>rfl
 |cons c r=>simp[ByteArray.size] at h
theorem Po{s:ByteArray}(h0:0 < s.size)(h:¬ s.size<=32):FQ s.data.toList=false:=by rw[GS h0];simp[h]
theorem NJ{s:ByteArray}(h0:0 < s.size)(h:CI s[0]=false):FQ s.data.toList=false:=by rw[GS h0];simp[h]
theorem Pq{s:ByteArray}{k:Nat}(a:k < s.size)(h:Fs s[k]=false):FQ s.data.toList=false:=by
 rw[GS (by omega)]
 have:s.data.toList.all Fs=false:=by
  rw[xq]
  exact ⟨s[k],by rw[Array.mem_toList_iff];exact Array.getElem_mem _,by simp[h]⟩
 rw[this];simp
theorem Rk{s:ByteArray}(h0:0 < s.size)(a:s.size<=32)(h:CI s[0]=true)(b:(s.data.toList.take s.size).all Fs=true):FQ s.data.toList=true:=by
 rw[xW (by simp)] at b
 rw[GS h0,b,h];simp[a]
theorem SD{s:ByteArray}{k:Nat}(b:k < s.size)(a:(s.data.toList.take k).all Fs=true)(h:Fs s[k]=true):(s.data.toList.take (k+1)).all Fs=true:=by
 rw[Rj s k b,qk,a];simp[h]
theorem SE(P:UInt8->Bool)(h:(List.range 256).all (fun n=>P n.toUInt8)=true)(c:UInt8):P c=true:=by
 have:=yR.1 h c.toNat (by rw[zg];exact c.toNat_lt)
 simpa using this
theorem Qx(c:UInt8):(Cn c==2)=CI c:=by
 have:=SE (fun c=>(Cn c==2)==CI c) (by decide+kernel) c
 simpa using this
theorem K7(c:UInt8):(Cn c==2||Cn c==3||Cn c==5)=Fs c:=by
 have:=SE (fun c=>(Cn c==2||Cn c==3||Cn c==5)==Fs c) (by decide+kernel) c
 simpa using this
theorem Rl{s:ByteArray}(h:0 < s.size):s.toList.isEmpty=false:=by
 rw[zP,List.isEmpty_eq_false_iff];intro e;have:=FG s;rw[e] at this;simp at this;omega
theorem SG{s:ByteArray}(h:¬ 0 < s.size):s.toList.isEmpty=true:=by
 rw[zP,List.isEmpty_iff,<-zl,FG];omega
theorem SH(c:UInt8)(n:Int)(h:Cn c=n)(w:World):
  Calls Tryz.prog 99 #[.int .u8 (c.toNat:Int)] w fun e w'=>e=.returned (.int .i64 n)∧w=w':=by
 rw[<-h];exact Hl c w
theorem Rm{c:UInt8}(h:CI c=true):Cn c=2:=by
 have:=Qx c
 rw[h] at this
 simpa using this
theorem Ko(c:UInt8)(h:CI c=false)(w:World):
  Calls Tryz.prog 99 #[.int .u8 (c.toNat:Int)] w fun e w'=>∃n:Int,(n !=2)=true∧e=.returned (.int .i64 n)∧w=w':=
 (Hl c w).mono fun _ _ a=>⟨_,by have:=Qx c;rw[h] at this;simpa using this,a⟩
theorem Ps(c:UInt8)(h:Fs c=true)(w:World):
  Calls Tryz.prog 99 #[.int .u8 (c.toNat:Int)] w fun e w'=>∃n:Int,(n=2∨n=3∨n=5)∧e=.returned (.int .i64 n)∧w=w':=
 (Hl c w).mono fun _ _ a=>⟨_,by have:=K7 c;rw[h] at this;simpa[or_assoc] using this,a⟩
theorem MM(c:UInt8)(h:Fs c=false)(w:World):
  Calls Tryz.prog 99 #[.int .u8 (c.toNat:Int)] w fun e w'=>∃n:Int,(n !=2)=true∧(n !=3)=true∧(n !=5)=true∧e=.returned (.int .i64 n)∧w=w':=
 (Hl c w).mono fun _ _ a=>⟨_,by have:=K7 c;rw[h] at this;simp at this;simp[this],by have:=K7 c;rw[h] at this;simp at this;simp[this],by have:=K7 c;rw[h] at this;simp at this;simp[this],a⟩
theorem SI(s:ByteArray)(w:World)(hs:s.size<=maxLen):
  Calls Tryz.prog 80 #[.string s] w fun e w'=>e=.returned (.bool (FQ s.data.toList))∧w=w':=by
 unfold maxLen at hs
 generalize hN:FQ s.data.toList=N
 have f:=yb hN;clear hN
 by_cases h0:0 < s.size
 ·have j:=Rl h0
  by_cases a:s.size<=32
  ·have n:decide (32 < (s.size:Int))=false:=by simp;omega
   by_cases g:CI s[0]=true
   ·have d:=yb g;clear g
    go_enter Tryz.func80,Tryz.ntmps80
    go_wp2_with (first|(go_at_call 99;refine (SH _ 2 (Rm d.o) _).mono ?_;rintro e w' ⟨rfl,rfl⟩))
    go_loop [3,4,20] (fun _ _ i=>∃k:Nat,k<=s.size∧i=iV k∧(s.data.toList.take k).all Fs=true) (fun _ _ i=>s.size - (intOf i).toNat)
    case atStart=>exact ⟨0,by omega,rfl,rfl⟩
    case round=>
     obtain ⟨k,q,rfl,m⟩:=hrel
     have l:=yb m;clear m
     by_cases c:k < s.size
     ·by_cases h:Fs s[k]=true
      ·have b:=yb h;clear h
       go_wp2_with (first|(go_at_call 99;refine (Ps _ b.o _).mono ?_;rintro e w' ⟨n1,(rfl|rfl|rfl),rfl,rfl⟩))
       all_goals exact ⟨⟨k+1,by omega,by go_num,SD c l.o b.o⟩,by simp[intOf];omega⟩
      ·have b:=yb (yn.2 h);clear h
       go_wp2_with (first|(go_at_call 99;refine (MM _ b.o _).mono ?_;rintro e w' ⟨n1,c2,c3,c5,rfl,rfl⟩))
       go_ret
       exact ⟨AH (by rw[<-f.o,Pq c b.o]),rfl⟩
     ·go_wp2
      go_ret
      obtain rfl:k=s.size:=by omega
      exact ⟨AH (by rw[<-f.o,Rk h0 a d.o l.o]),rfl⟩
   ·have d:=yb (yn.2 g);clear g
    go_enter Tryz.func80,Tryz.ntmps80
    go_wp2_with (first|(go_at_call 99;refine (Ko _ d.o _).mono ?_;rintro e w' ⟨n0,p,rfl,rfl⟩))
    go_ret
    exact ⟨AH (by rw[<-f.o,NJ h0 d.o]),rfl⟩
  ·go_enter Tryz.func80,Tryz.ntmps80
   go_wp2_with fail
   go_ret
   exact ⟨AH (by rw[<-f.o,Po h0 a]),rfl⟩
 ·have j:=SG h0
  go_enter Tryz.func80,Tryz.ntmps80
  go_wp2_with fail
  go_ret
  exact ⟨AH (by rw[<-f.o,NI h0]),rfl⟩
end Go.Proofs.YtjofgpfocadomaaGreatDoor
namespace Go.Proofs.YtjofgpfocadomaaGreatDoor
open Go.RowKit
attribute [local go_sem] Oper.semAt_some
def K8(J:Nat->NP->World->Prop)(Jx:NP->World->Prop)(Jp:List PanicEntry->NP->World->Prop)(O:NP)(k:Nat)(W:World)(e:Ending)(W':World):Prop:=
 (e=.returned (.bool true)∧J k O W'∧AL O W W')∨(e=.returned (.bool false)∧Jx O W'∧AL O W W')∨∃a,e=.panicked a∧Jp a O W'∧AL O W W'
theorem CX{O:NP}{W W':World}(h:AL O W W'){b o:Nat}(hb:O b){v:Value}(a:W.cell? ⟨b,o,none⟩=some v):W'.cell? ⟨b,o,none⟩=some v:=by
 unfold World.cell? at a ⊢
 rw[h.2 b hb];exact a
theorem U7(n:Nat)(R:1<=n)(l Bc g:Nat)(lt:Int)(ps:LV)(f:Nat)(O:NP)(J:Nat->NP->World->Prop)(Jx:NP->World->Prop)(Jp:List PanicEntry->NP->World->Prop)(W:World)
 (B:O Bc)(C:O g)(r:ps.length<=100)(D:W.cell? ⟨Bc,0,none⟩=some (.func (.yield l) #[] #[]))(k:∀i (h:i < ps.length),W.cell? ⟨g,i,none⟩=some ps[i])(a:∀i (h:i < ps.length),∃p,ps[i]=.pointer (some p))
 (y:∀i (h:i < ps.length) W1,J (f+i) O W1->AL O W W1->YieldAt Fence.wide (n - 1) Tryz.prog l #[ps[i],.int .i64 lt] W1 (K8 J Jx Jp O (f+i+1) W1))
 (h0:J f O W):
  CallsIn Fence.wide n Tryz.prog 93 #[.int .i64 lt,.slice (some ⟨g,0,none⟩) ps.length ps.length,.pointer (some ⟨Bc,0,none⟩)] W (K8 J Jx Jp O (f+ps.length) W):=by
 have Q:=yb D
 have v:=yb k
 have L:=yb y
 have P:=yb h0
 have H:=yb B
 have t:=yb C
 have j:=yb a
 generalize hN:ps.length=N at r ⊢
 have I:=yb hN
 clear D k y h0 hN B C a
 refine callsIn_of_wp Tryz.func93 rfl trivial ?_ rfl
 simp only[Tryz.ntmps93,yq,yx,yH,Nat.reduceAdd,Nat.reduceSub,zy,zA,zQ,zJ,yS,yP]
 gi_wp2
 gi_loopw [10] (fun w wr=>∃i:Nat,i<=N∧w=iV i∧Hid (J (f+i) O wr)∧Hid (AL O W wr)) (fun w _=>N - (intOf w).toNat)
 case atStart=>exact ⟨0,yK _,rfl,P,yb (AL.refl _ _)⟩
 case round=>
  obtain ⟨i,hi,rfl,A,d⟩:=hrel
  by_cases u:i < N
  ·have b:i < ps.length:=by rw[I.o];exact u
   have c0:=CX d.o H.o Q.o
   have c1:=CX d.o t.o (v.o i b)
   obtain ⟨p,m⟩:=j.o i b
   obtain ⟨fn,tmps,assign,body,G,z⟩:=L.o i b wr A.o d.o
   rw[m] at c1 G
   have F:=yb z
   have K:(i:Int) < (N:Int):=by omega
   clear z m
   gi_wp2
   refine F.o.mono ?_
   rintro e S (⟨rfl,x,hs⟩|⟨rfl,E,hs⟩|⟨M,rfl,m,hs⟩)
   ·have q:=yb x
    have c:=yb (d.o.trans hs)
    clear x hs
    gi_wp2
    exact ⟨⟨i+1,by omega,by go_num,q,c⟩,by simp[intOf];omega⟩
   ·have s:=yb E
    have c:=yb (d.o.trans hs)
    clear E hs
    gi_wp2
    go_ret
    exact .inr (.inl ⟨rfl,s.o,c.o⟩)
   ·exact ⟨rfl,.inr (.inr ⟨M,rfl,m,d.o.trans hs⟩)⟩
  ·obtain rfl:i=N:=by omega
   gi_wp2
   go_ret
   exact .inl ⟨rfl,A.o,d.o⟩
end Go.Proofs.YtjofgpfocadomaaGreatDoor
namespace Go.Proofs.YtjofgpfocadomaaGreatDoor
open Go.RowKit
structure Au where
 a:Option Addr
 n:Nat
 c:Nat
def Au.v(h:Au):Value:=.slice h.a h.n h.c
def Au.at(h:Au)(sz i c:Nat):Addr:=match h.a with
 |some ⟨b,o,_⟩=>⟨b,o+i*sz+c,none⟩
 |none=>⟨0,0,none⟩
def Au.ptr(h:Au)(sz i a:Nat):Value:=.pointer (some (h.at sz i a))
def Au.ok(h:Au):Prop:=h.n<=140737488355328∧(0 < h.n->∃b o,h.a=some ⟨b,o,none⟩)
theorem Au.ok.get{h:Au}(e:h.ok){i:Nat}(hi:i < h.n):∃b o,h.a=some ⟨b,o,none⟩∧∀sz i c,h.at sz i c=⟨b,o+i*sz+c,none⟩:=by
 obtain ⟨b,o,d⟩:=e.2 (by omega)
 exact ⟨b,o,d,fun sz i c=>by unfold Au.at;rw[d]⟩
structure Bt where
 s:Nat
 lets:Au
 crops:Au
 reaches:Au
 farms:Au
 rots:Au
 rights:Au
 duties:Au
 turns:List Au
def one(p:Value)(lt:Int):List (Array Value):=[#[p,.int .i64 lt]]
def An(ps:LV):List (Array Value):=ps.map fun p=>#[p,.int .i64 0]
def Af(s:Nat):LV:=[.pointer (some ⟨s,1,none⟩),.pointer (some ⟨s,7,none⟩),.pointer (some ⟨s,13,none⟩)]
def K9(h:Au)(i:Nat):LV:=[h.ptr 51 i 3,h.ptr 51 i 9,h.ptr 51 i 15,h.ptr 51 i 21,h.ptr 51 i 27,h.ptr 51 i 33,h.ptr 51 i 39,h.ptr 51 i 45]
def Eh(h:Au)(i:Nat):LV:=[h.ptr 23 i 4,h.ptr 23 i 10,h.ptr 23 i 16]
def Kb(h:Au)(i:Nat):LV:=[h.ptr 37 i 7,h.ptr 37 i 13,h.ptr 37 i 19,h.ptr 37 i 25,h.ptr 37 i 31]
def A2(L:Bt)(i:Nat):Au:=L.turns.getD i ⟨none,0,0⟩
def Ao(L:Bt)(n:Nat):List (Array Value):=(List.range n).flatMap fun i=> [#[L.lets.ptr 7 i 1,.int .i64 (1+(i:Int))]]
def Ag(L:Bt)(n:Nat):List (Array Value):=(List.range n).flatMap fun i=>An [L.crops.ptr 7 i 1]
def Aa(L:Bt)(n:Nat):List (Array Value):=(List.range n).flatMap fun i=>An (K9 L.reaches i)
def As(L:Bt)(n:Nat):List (Array Value):=(List.range n).flatMap fun i=>An [L.farms.ptr 12 i 4]
def BF(h:Au)(n:Nat):List (Array Value):=(List.range n).flatMap fun k=>An [h.ptr 8 k 2]
def AV(L:Bt)(n:Nat):List (Array Value):=(List.range n).flatMap fun i=>An (Eh L.rots i)++BF (A2 L i) (A2 L i).n
def AF(L:Bt)(n:Nat):List (Array Value):=(List.range n).flatMap fun i=>An (Kb L.rights i)
def Bj(L:Bt)(n:Nat):List (Array Value):=(List.range n).flatMap fun i=>An [L.duties.ptr 11 i 5]
def BJ(L:Bt):List (Array Value):=
 An (Af L.s)++(Ao L L.lets.n++(Ag L L.crops.n++(Aa L L.reaches.n++(As L L.farms.n++(AV L L.rots.n++(AF L L.rights.n++Bj L L.duties.n))))))
structure IA (L:Bt) (Bs:Nat) (W:World):Prop where
 box:W.cell? ⟨Bs,0,none⟩=some (.pointer (some ⟨L.s,0,none⟩))
 lets:W.cell? ⟨L.s,19,none⟩=some L.lets.v
 crops:W.cell? ⟨L.s,20,none⟩=some L.crops.v
 reaches:W.cell? ⟨L.s,21,none⟩=some L.reaches.v
 farms:W.cell? ⟨L.s,22,none⟩=some L.farms.v
 rots:W.cell? ⟨L.s,23,none⟩=some L.rots.v
 rights:W.cell? ⟨L.s,24,none⟩=some L.rights.v
 duties:W.cell? ⟨L.s,25,none⟩=some L.duties.v
 turns:∀i,i < L.rots.n->W.cell? (L.rots.at 23 i 22)=some (A2 L i).v
structure Bt.Ok (L:Bt):Prop where
 lets:L.lets.ok
 crops:L.crops.ok
 reaches:L.reaches.ok
 farms:L.farms.ok
 rots:L.rots.ok
 rights:L.rights.ok
 duties:L.duties.ok
 turns:∀i,i < L.rots.n->(A2 L i).ok
theorem Bw{α:Type}(f:Nat->List α){n i:Nat}(h:i < n):∃post,(List.range n).flatMap f=(List.range i).flatMap f++(f i++post):=by
 obtain ⟨m,rfl⟩:∃m,n=(i+1)+m:=⟨n - (i+1),by omega⟩
 rw[List.range_add,zK,List.range_succ,zK]
 exact ⟨_,by simp[yL];rfl⟩
theorem Aj{α:Type}(f:Nat->List α)(i:Nat):(List.range (i+1)).flatMap f=(List.range i).flatMap f++f i:=by
 rw[List.range_succ,zK];simp
structure Wf (n l:Nat) (P:Program) (xs:List (Array Value)) (Hd:World->Prop) (J:Nat->(Nat->Prop)->World->Prop) (Jx:(Nat->Prop)->World->Prop) (Jp:List PanicEntry->(Nat->Prop)->World->Prop) (W0:World):Prop where
 stays:Ca J
 staysx:Ca (fun (_:Unit)=>Jx)
 hd:∀k O W,J k O W->Hd W
 hdx:∀O W,Jx O W->Hd W
 round:∀k (hk:k < xs.length) O W1,J k O W1->W0.heap.size<=W1.heap.size->(∀b,O b->W0.heap.size<=b∧b < W1.heap.size)->YieldAt Fence.wide n P l xs[k] W1 (K8 J Jx Jp O (k+1) W1)
structure I5 (J:Nat->(Nat->Prop)->World->Prop) (W0:World) (l Bc k:Nat) (O:Nat->Prop) (wr:World):Prop where
 j:J k O wr
 bc:O Bc
 box:wr.cell? ⟨Bc,0,none⟩=some (.func (.yield l) #[] #[])
 size:W0.heap.size<=wr.heap.size
 own:∀b,O b->W0.heap.size<=b∧b < wr.heap.size
section
variable{n l Bc k:Nat}{P:Program}{xs:List (Array Value)}{Hd:World->Prop}{J:Nat->NP->World->Prop}{Jx:NP->World->Prop}{Jp:List PanicEntry->NP->World->Prop}{W0 wr w2:World}{O:NP}
theorem CD{β:Type}{J:β->NP->World->Prop}(h:Ca J){s:β}{O:NP}{W W':World}(d:J s O W)(hb:Below W.heap.size W W'):J s (fun b=>O b∨(W.heap.size<=b∧b < W'.heap.size)) W':=
 h s O W _ W' d hb.size hb.os hb.tape hb.output (fun b _ a=>hb.block b a) (fun _ c=>c.elim .inl (fun h=>.inr h.1))
theorem I5.below(c:Wf n l P xs Hd J Jx Jp W0)(h:I5 J W0 l Bc k O wr)(hb:Below wr.heap.size wr w2):I5 J W0 l Bc k (fun b=>O b∨(wr.heap.size<=b∧b < w2.heap.size)) w2:=
 ⟨CD c.stays h.j hb,.inl h.bc,(hb.cell (p:=⟨Bc,0,none⟩) (h.own _ h.bc).2).trans h.box,yu h.size hb.size,fun b a=>by
  rcases a with a|a
  ·have:=h.own b a;have:=hb.size;omega
  ·have:=h.size;omega⟩
def Wk(J:Nat->NP->World->Prop)(Jx:NP->World->Prop)(Jp:List PanicEntry->NP->World->Prop)(W0:World)(l Bc k:Nat)(e:Ending)(W':World):Prop:=
 (∃r:Bool,e=.returned (.bool r)∧((r=true∧∃a,I5 J W0 l Bc k a W')∨(r=false∧∃a,Jx a W')))∨∃b,e=.panicked b∧∃a,Jp b a W'
theorem Df(r:Wf (n - 1) l Tryz.prog xs Hd J Jx Jp W0)(x:1<=n){pre:List (Array Value)}(h:I5 J W0 l Bc pre.length O wr)(lt:Int)(a:Array Value)(N:Nat)(hN:a.size=N)(t:TypeId)(k:∃post,xs=pre++(a.toList.map (fun p=>#[p,.int .i64 lt])++post))(o:N<=100)(d:∀p∈a.toList,∃q,p=.pointer (some q))(g:Nat)(z:g=wr.heap.size):
  Calls Tryz.prog 93 #[.int .i64 lt,.slice (some ⟨g,0,none⟩) N N,.pointer (some ⟨Bc,0,none⟩)] (wr.alloc (.cells a t)) (Wk J Jx Jp W0 l Bc (pre.length+N)):=by
 subst hN z
 have hb:Below wr.heap.size wr (wr.alloc (.cells a t)):=(yg _ _).alloc (yf _) _
 have h2:=h.below r hb
 have c:a.toList.length=a.size:=by simp
 refine z6.1 ((U7 n x l Bc wr.heap.size lt a.toList pre.length _ J Jx Jp _ h2.bc (.inr ⟨yf _,by simp⟩) (by rw[c];exact o) h2.box (fun i hi=>?_) (fun i hi=>d _ (yM hi)) (fun i hi s f hs=>?_) h2.j).mono ?_)
 ·have:(wr.alloc (.cells a t)).heap[wr.heap.size]?=some (.cells a t (0,0)):=World.alloc_heap_new _ _
  simp only[World.cell?,this]
  simp[c▸hi]
 ·obtain ⟨post,k⟩:=k
  have u:pre.length+i < xs.length:=by rw[k];simp;simp at hi;omega
  have v:xs[pre.length+i]=#[a.toList[i],iV lt]:=by
   subst k
   rw[xy (by omega)]
   simp only[zW]
   rw[xz (by simpa using hi),zG]
  have:=r.round (pre.length+i) u _ s f (yu h2.size hs.1) (fun b hb=>by have:=h2.own b hb;have:=hs.1;omega)
  rw[v] at this
  exact this
 ·rintro e W' (⟨rfl,f,hs⟩|⟨rfl,m,hs⟩|⟨y,rfl,w,_⟩)
  ·rw[c] at f
   exact .inl ⟨true,rfl,.inl ⟨rfl,_,f,h2.bc,CX hs h2.bc h2.box,yu h2.size hs.1,fun b hb=>by have:=h2.own b hb;have:=hs.1;omega⟩⟩
  ·exact .inl ⟨false,rfl,.inr ⟨rfl,_,m⟩⟩
  ·exact .inr ⟨y,rfl,_,w⟩
end
structure Rf where
 name:ByteArray
 n:Int
structure Gh where
 name:ByteArray
 value:Ex
structure DN where
 name:ByteArray
 need:Ex
structure AA where
 name:ByteArray
 frm:Rf
 delay:Ex
 cap:Ex
 bank:Ex
 siphon:Ex
 evap0:Ex
 evap1:Ex
 seep0:Ex
 seep1:Ex
structure CE where
 name:ByteArray
 on:Rf
 river:Bool
 area:Ex
 crop:Rf
structure Cb where
 farm:Rf
 len:Ex
structure Br where
 name:ByteArray
 on:Rf
 rank:Int
 flow:Ex
 frm:Ex
 to:Ex
 turns:List Cb
structure AW where
 kind:Int
 name:ByteArray
 farm:Rf
 reach:Rf
 rank:Int
 flow:Ex
 frm:Ex
 to:Ex
 every:Ex
 len:Ex
structure CU where
 name:ByteArray
 farm:Rf
 reach:Rf
 due:Ex
structure Av where
 name:ByteArray
 season:Ex
 cap:Ex
 start:Ex
 lets:List Gh
 crops:List DN
 reaches:List AA
 farms:List CE
 rots:List Br
 rights:List AW
 duties:List CU
def BE{α:Type}(N:NP)(w:World)(sz:Nat)(P:LV->α->Prop)(h:Au)(l:List α):Prop:=
 h.n=l.length∧l.length<=140737488355328∧∀i (hi:i < l.length),∃b o cs,h.a=some ⟨b,o,none⟩∧N b∧cs.length=sz∧w.rangeAt b (o+i*sz) cs∧P cs l[i]
def AU(r:Rf):LV:=[.string r.name,.int .i64 r.n]
section
variable(N:NP)(w:World)
def JS(cs:LV)(d:Gh):Prop:=d.name.size<=maxLen∧∃c,cs=.string d.name::c∧AG N w d.value c
def I6(cs:LV)(d:DN):Prop:=d.name.size<=maxLen∧∃c,cs=.string d.name::c∧AG N w d.need c
def F8(cs:LV)(d:AA):Prop:=d.name.size<=maxLen∧d.frm.name.size<=maxLen∧∃c0 c1 c2 c3 c4 c5 c6 c7,cs=.string d.name::(AU d.frm++(c0++(c1++(c2++(c3++(c4++(c5++(c6++c7))))))))∧
 AG N w d.delay c0∧AG N w d.cap c1∧AG N w d.bank c2∧AG N w d.siphon c3∧AG N w d.evap0 c4∧AG N w d.evap1 c5∧AG N w d.seep0 c6∧AG N w d.seep1 c7
def I7(cs:LV)(d:CE):Prop:=d.name.size<=maxLen∧d.on.name.size<=maxLen∧d.crop.name.size<=maxLen∧∃c,cs=.string d.name::(AU d.on++(.bool d.river::(c++AU d.crop)))∧AG N w d.area c
def Ft(cs:LV)(d:Cb):Prop:=d.farm.name.size<=maxLen∧∃c,cs=AU d.farm++c∧AG N w d.len c
def GW(h:Au)(cs:LV)(d:Br):Prop:=d.name.size<=maxLen∧d.on.name.size<=maxLen∧∃c0 c1 c2,cs=.string d.name::(AU d.on++(.int .i64 d.rank::(c0++(c1++(c2++[h.v])))))∧
 AG N w d.flow c0∧AG N w d.frm c1∧AG N w d.to c2∧BE N w 8 (Ft N w) h d.turns
def F9(cs:LV)(d:AW):Prop:=d.name.size<=maxLen∧d.farm.name.size<=maxLen∧d.reach.name.size<=maxLen∧∃c0 c1 c2 c3 c4,cs=.int .i64 d.kind::.string d.name::(AU d.farm++(AU d.reach++(.int .i64 d.rank::(c0++(c1++(c2++(c3++c4)))))))∧
 AG N w d.flow c0∧AG N w d.frm c1∧AG N w d.to c2∧AG N w d.every c3∧AG N w d.len c4
def I8(cs:LV)(d:CU):Prop:=d.name.size<=maxLen∧d.farm.name.size<=maxLen∧d.reach.name.size<=maxLen∧∃c,cs=.string d.name::(AU d.farm++(AU d.reach++c))∧AG N w d.due c
structure BH (L:Bt) (cs:List Value) (x:Av):Prop where
 name:x.name.size<=maxLen
 cells:∃c0 c1 c2,cs=.string x.name::(c0++(c1++(c2++[L.lets.v,L.crops.v,L.reaches.v,L.farms.v,L.rots.v,L.rights.v,L.duties.v])))∧AG N w x.season c0∧AG N w x.cap c1∧AG N w x.start c2
 lets:BE N w 7 (JS N w) L.lets x.lets
 crops:BE N w 7 (I6 N w) L.crops x.crops
 reaches:BE N w 51 (F8 N w) L.reaches x.reaches
 farms:BE N w 12 (I7 N w) L.farms x.farms
 rots:L.rots.n=x.rots.length∧x.rots.length<=140737488355328∧∀i (hi:i < x.rots.length),∃b o cs,L.rots.a=some ⟨b,o,none⟩∧N b∧cs.length=23∧w.rangeAt b (o+i*23) cs∧GW N w (A2 L i) cs x.rots[i]
 rights:BE N w 37 (F9 N w) L.rights x.rights
 duties:BE N w 11 (I8 N w) L.duties x.duties
end
section
variable{N N':NP}{w w':World}
theorem BE.same{α:Type}{sz:Nat}{P c:LV->α->Prop}{h:Au}{l:List α}(g:∀b,N b->N' b)(hb:∀b,N b->w'.heap[b]?=w.heap[b]?)(f:∀cs d,P cs d->c cs d)(hr:BE N w sz P h l):BE N' w' sz c h l:=by
 obtain ⟨h1,h2,h3⟩:=hr
 refine ⟨h1,h2,fun i hi=>?_⟩
 obtain ⟨b,o,cs,g1,a,k,j,e⟩:=h3 i hi
 exact ⟨b,o,cs,g1,g b a,k,A0 j (hb b a),f _ _ e⟩
theorem BE.ok{α:Type}{sz:Nat}{P:LV->α->Prop}{h:Au}{l:List α}(hr:BE N w sz P h l):h.ok:=by
 obtain ⟨h1,h2,h3⟩:=hr
 refine ⟨by omega,fun a=>?_⟩
 obtain ⟨b,o,_,g1,_⟩:=h3 0 (by omega)
 exact ⟨b,o,g1⟩
theorem JS.same(a:∀b,N b->N' b)(hb:∀b,N b->w'.heap[b]?=w.heap[b]?){cs:LV}{d:Gh}(h:JS N w cs d):JS N' w' cs d:=by
 obtain ⟨h1,c,h2,h3⟩:=h
 exact ⟨h1,c,h2,h3.same a hb⟩
theorem I6.same(a:∀b,N b->N' b)(hb:∀b,N b->w'.heap[b]?=w.heap[b]?){cs:LV}{d:DN}(h:I6 N w cs d):I6 N' w' cs d:=by
 obtain ⟨h1,c,h2,h3⟩:=h
 exact ⟨h1,c,h2,h3.same a hb⟩
theorem F8.same(a:∀b,N b->N' b)(hb:∀b,N b->w'.heap[b]?=w.heap[b]?){cs:LV}{d:AA}(h:F8 N w cs d):F8 N' w' cs d:=by
 obtain ⟨h1,h2,c0,c1,c2,c3,c4,c5,c6,c7,h3,i,g1,e,g,f,c,j,k⟩:=h
 exact ⟨h1,h2,c0,c1,c2,c3,c4,c5,c6,c7,h3,i.same a hb,g1.same a hb,e.same a hb,g.same a hb,f.same a hb,c.same a hb,j.same a hb,k.same a hb⟩
theorem I7.same(a:∀b,N b->N' b)(hb:∀b,N b->w'.heap[b]?=w.heap[b]?){cs:LV}{d:CE}(h:I7 N w cs d):I7 N' w' cs d:=by
 obtain ⟨h1,h2,h3,c,e,g⟩:=h
 exact ⟨h1,h2,h3,c,e,g.same a hb⟩
theorem Ft.same(a:∀b,N b->N' b)(hb:∀b,N b->w'.heap[b]?=w.heap[b]?){cs:LV}{d:Cb}(h:Ft N w cs d):Ft N' w' cs d:=by
 obtain ⟨h1,c,h2,g⟩:=h
 exact ⟨h1,c,h2,g.same a hb⟩
theorem GW.same(a:∀b,N b->N' b)(hb:∀b,N b->w'.heap[b]?=w.heap[b]?){t:Au}{cs:LV}{d:Br}(h:GW N w t cs d):GW N' w' t cs d:=by
 obtain ⟨h1,h2,c0,c1,c2,h3,c,g1,f,e⟩:=h
 exact ⟨h1,h2,c0,c1,c2,h3,c.same a hb,g1.same a hb,f.same a hb,e.same a hb (fun _ _ h=>h.same a hb)⟩
theorem F9.same(a:∀b,N b->N' b)(hb:∀b,N b->w'.heap[b]?=w.heap[b]?){cs:LV}{d:AW}(h:F9 N w cs d):F9 N' w' cs d:=by
 obtain ⟨h1,h2,h3,c0,c1,c2,c3,c4,e,i,g1,c,g,f⟩:=h
 exact ⟨h1,h2,h3,c0,c1,c2,c3,c4,e,i.same a hb,g1.same a hb,c.same a hb,g.same a hb,f.same a hb⟩
theorem I8.same(a:∀b,N b->N' b)(hb:∀b,N b->w'.heap[b]?=w.heap[b]?){cs:LV}{d:CU}(h:I8 N w cs d):I8 N' w' cs d:=by
 obtain ⟨h1,h2,h3,c,e,g⟩:=h
 exact ⟨h1,h2,h3,c,e,g.same a hb⟩
theorem BH.same(a:∀b,N b->N' b)(hb:∀b,N b->w'.heap[b]?=w.heap[b]?){L:Bt}{cs:LV}{x:Av}(h:BH N w L cs x):BH N' w' L cs x:=by
 refine ⟨h.name,?_,h.lets.same a hb (fun _ _ h=>h.same a hb),h.crops.same a hb (fun _ _ h=>h.same a hb),h.reaches.same a hb (fun _ _ h=>h.same a hb),h.farms.same a hb (fun _ _ h=>h.same a hb),?_,h.rights.same a hb (fun _ _ h=>h.same a hb),h.duties.same a hb (fun _ _ h=>h.same a hb)⟩
 ·obtain ⟨c0,c1,c2,h1,g,g1,c⟩:=h.cells
  exact ⟨c0,c1,c2,h1,g.same a hb,g1.same a hb,c.same a hb⟩
 ·obtain ⟨h1,h2,h3⟩:=h.rots
  refine ⟨h1,h2,fun i hi=>?_⟩
  obtain ⟨b,o,cs,g1,c,f,e,d⟩:=h3 i hi
  exact ⟨b,o,cs,g1,a b c,f,A0 e (hb b c),d.same a hb⟩
theorem BH.ok{L:Bt}{cs:LV}{x:Av}(h:BH N w L cs x):L.Ok:=by
 obtain ⟨h1,h2,h3⟩:=h.rots
 refine ⟨h.lets.ok,h.crops.ok,h.reaches.ok,h.farms.ok,⟨by omega,fun a=>?_⟩,h.rights.ok,h.duties.ok,fun i hi=>?_⟩
 ·obtain ⟨b,o,_,g1,_⟩:=h3 0 (by omega)
  exact ⟨b,o,g1⟩
 ·obtain ⟨_,_,_,_,_,_,_,g⟩:=h3 i (by omega)
  obtain ⟨_,_,_,_,_,_,_,_,_,g⟩:=g
  exact g.ok
end
def AB{α β:Type}(R:α->β->Prop):List α->List β->Prop
 |[],[]=>True
 |a::l,b::m=>R a b∧AB R l m
 |_,_=>False
section
variable{α β:Type}{R:α->β->Prop}
theorem AB.append:∀ {l:List α} {m:List β} {l':List α} {a:List β},AB R l m->AB R l' a->AB R (l++l') (m++a)
 |[],[],_,_,_,h=>h
 |_::_,_::_,_,_,h,h'=>⟨h.1,h.2.append h'⟩
 |[],_::_,_,_,h,_=>h.elim
 |_::_,[],_,_,h,_=>h.elim
theorem AB.length:∀ {l:List α} {m:List β},AB R l m->l.length=m.length
 |[],[],_=>rfl
 |_::_,_::_,h=>by simp[h.2.length]
 |[],_::_,h=>h.elim
 |_::_,[],h=>h.elim
theorem AB.get:∀ {l:List α} {m:List β},AB R l m->∀i (h:i < l.length) (a:i < m.length),R l[i] m[i]
 |[],_,_,i,h,_=>by simp at h
 |_::_,_::_,h,0,_,_=>h.1
 |_::_,_::_,h,i+1,h1,h2=>h.2.get i (by simpa using h1) (by simpa using h2)
 |_::_,[],h,_,_,_=>h.elim
theorem AB.mono{R':α->β->Prop}(hr:∀a b,R a b->R' a b):∀ {l:List α} {m:List β},AB R l m->AB R' l m
 |[],[],h=>h
 |_::_,_::_,h=>⟨hr _ _ h.1,h.2.mono hr⟩
 |[],_::_,h=>h.elim
 |_::_,[],h=>h.elim
theorem M6{γ:Type}(f:Nat->List α)(g:Nat->γ->List β):∀(l:List γ) (k:Nat),(∀i (h:i < l.length),AB R (f (k+i)) (g (k+i) l[i]))->AB R ((List.range' k l.length).flatMap f) ((l.zipIdx k).flatMap fun p=>g p.2 p.1)
 |[],_,_=>by simp[AB]
 |x::r,k,h=>by
  rw[yx,List.range'_succ,yW,xP,yW]
  refine (h 0 (by simp)).append (M6 f g r (k+1) fun i hi=>?_)
  have:=h (i+1) (by simpa using hi)
  rw[show k+1+i=k+(i+1) by omega]
  simpa using this
theorem AY{γ:Type}(f:Nat->List α)(g:Nat->γ->List β)(l:List γ)(n:Nat)(a:n=l.length)(h:∀i (h:i < l.length),AB R (f i) (g i l[i])):AB R ((List.range n).flatMap f) (l.zipIdx.flatMap fun p=>g p.2 p.1):=by
 subst a
 rw[List.range_eq_range']
 exact M6 f g l 0 (fun i hi=>by rw[yy];exact h i hi)
end
abbrev Ks:=Ex × Int
def JB(l:List Gh):List Ks:=l.zipIdx.flatMap fun p=> [(p.1.value,1+(p.2:Int))]
def Il(l:List DN):List Ks:=l.zipIdx.flatMap fun p=> [(p.1.need,0)]
def Fc(l:List AA):List Ks:=l.zipIdx.flatMap fun p=> [(p.1.delay,0),(p.1.cap,0),(p.1.bank,0),(p.1.siphon,0),(p.1.evap0,0),(p.1.evap1,0),(p.1.seep0,0),(p.1.seep1,0)]
def Im(l:List CE):List Ks:=l.zipIdx.flatMap fun p=> [(p.1.area,0)]
def Em(l:List Cb):List Ks:=l.zipIdx.flatMap fun p=> [(p.1.len,0)]
def JC(l:List Br):List Ks:=l.zipIdx.flatMap fun p=> [(p.1.flow,0),(p.1.frm,0),(p.1.to,0)]++Em p.1.turns
def Gj(l:List AW):List Ks:=l.zipIdx.flatMap fun p=> [(p.1.flow,0),(p.1.frm,0),(p.1.to,0),(p.1.every,0),(p.1.len,0)]
def Gk(l:List CU):List Ks:=l.zipIdx.flatMap fun p=> [(p.1.due,0)]
def Ax(x:Av):List Ks:=
 [(x.season,0),(x.cap,0),(x.start,0)]++(JB x.lets++(Il x.crops++(Fc x.reaches++(Im x.farms++(JC x.rots++(Gj x.rights++Gk x.duties))))))
def Wl(N:NP)(s:Nat)(w:World)(a:Array Value)(e:Ks):Prop:=
 ∃b o cs,a=#[.pointer (some ⟨b,o,none⟩),.int .i64 e.2]∧(b=s∨N b)∧w.rangeAt b o cs∧AG N w e.1 cs
theorem CY{w:World}{b o:Nat}{p c q:LV}(h:w.rangeAt b o (p++(c++q))):w.rangeAt b (o+p.length) c:=fun j v a=>by
 have d:=(yA.1 a).1
 have:=h (p.length+j) v (by rw[yU (by omega),zW,zn d];exact a)
 rw[show o+p.length+j=o+(p.length+j) by omega];exact this
theorem AG.len{N:NP}{w:World}{e:Ex}{c:LV}(h:AG N w e c):c.length=6:=by
 obtain ⟨a,cap,rfl,_⟩:=h.cells;rfl
theorem Cu{N:NP}{s:Nat}{w:World}{h:Au}{b o sz i a:Nat}{p c q:LV}{e:Ex}(lt:Int)(d:∀sz i a,h.at sz i a=⟨b,o+i*sz+a,none⟩)(hb:b=s∨N b){cs:LV}(hr:w.rangeAt b (o+i*sz) cs)(j:cs=p++(c++q))(g:p.length=a)(f:AG N w e c):
  Wl N s w #[h.ptr sz i a,.int .i64 lt] (e,lt):=by
 subst j
 refine ⟨b,o+i*sz+a,c,?_,hb,?_,f⟩
 ·unfold Au.ptr;rw[d]
 ·have:=CY hr
  rw[g] at this;exact this
theorem AO{h:Au}{b o:Nat}(d:h.a=some ⟨b,o,none⟩):∀sz i c,h.at sz i c=⟨b,o+i*sz+c,none⟩:=fun sz i c=>by unfold Au.at;rw[d]
theorem Aw(r:Rf):(AU r).length=2:=rfl
section
variable{N:NP}{w:World}{L:Bt}{cs:LV}{x:Av}
theorem Io(h:BH N w L cs x)(hr:w.rangeAt L.s 0 cs):AB (Wl N L.s w) (BJ L) (Ax x):=by
 refine AB.append ?_ (AB.append ?_ (AB.append ?_ (AB.append ?_ (AB.append ?_ (AB.append ?_ (AB.append ?_ ?_))))))
 ·obtain ⟨c0,c1,c2,rfl,D,g1,a⟩:=h.cells
  have f:=D.len
  have g:=g1.len
  refine ⟨⟨L.s,1,c0,rfl,.inl rfl,?_,D⟩,⟨L.s,7,c1,rfl,.inl rfl,?_,g1⟩,⟨L.s,13,c2,rfl,.inl rfl,?_,a⟩,trivial⟩
  ·exact CY (p:=[.string x.name]) (o:=0) hr
  ·have:=CY (p:=.string x.name::c0) (c:=c1) (q:=c2++[L.lets.v,L.crops.v,L.reaches.v,L.farms.v,L.rots.v,L.rights.v,L.duties.v]) (o:=0) (b:=L.s) (w:=w) (by simpa using hr)
   simpa[f] using this
  ·have:=CY (p:=.string x.name::(c0++c1)) (c:=c2) (q:=[L.lets.v,L.crops.v,L.reaches.v,L.farms.v,L.rots.v,L.rights.v,L.duties.v]) (o:=0) (b:=L.s) (w:=w) (by simpa using hr)
   simpa[f,g] using this
 ·obtain ⟨h1,h2,h3⟩:=h.lets
  refine AY _ (fun i (d:Gh)=> [(d.value,1+(i:Int))]) x.lets _ h1 fun i hi=>?_
  obtain ⟨b,o,cs,g1,a,t,e,_,c,rfl,j⟩:=h3 i hi
  exact ⟨Cu (p:=[.string (x.lets[i]).name]) (q:=[]) _ (AO g1) (.inr a) e (by simp) rfl j,trivial⟩
 ·obtain ⟨h1,h2,h3⟩:=h.crops
  refine AY _ (fun i (d:DN)=> [(d.need,0)]) x.crops _ h1 fun i hi=>?_
  obtain ⟨b,o,cs,g1,a,t,e,_,c,rfl,j⟩:=h3 i hi
  exact ⟨Cu (p:=[.string (x.crops[i]).name]) (q:=[]) _ (AO g1) (.inr a) e (by simp) rfl j,trivial⟩
 ·obtain ⟨h1,h2,h3⟩:=h.reaches
  refine AY _ (fun i (d:AA)=> [(d.delay,0),(d.cap,0),(d.bank,0),(d.siphon,0),(d.evap0,0),(d.evap1,0),(d.seep0,0),(d.seep1,0)]) x.reaches _ h1 fun i hi=>?_
  obtain ⟨b,o,cs,g1,a,t,e,_,_,c0,c1,c2,c3,c4,c5,c6,c7,rfl,l,n,r,y,z,B,C,E⟩:=h3 i hi
  generalize x.reaches[i]=d at*
  have f:=l.len;have g:=n.len;have m:=r.len;have u:=y.len;have A:=z.len;have l5:=B.len;have l6:=C.len
  refine ⟨?_,?_,?_,?_,?_,?_,?_,?_,trivial⟩
  ·exact Cu (p:=.string d.name::AU d.frm) _ (AO g1) (.inr a) e (by simp;rfl) rfl l
  ·exact Cu (p:=.string d.name::(AU d.frm++c0)) _ (AO g1) (.inr a) e (by simp;rfl) (by simp[Aw,f]) n
  ·exact Cu (p:=.string d.name::(AU d.frm++(c0++c1))) _ (AO g1) (.inr a) e (by simp;rfl) (by simp[Aw,f,g]) r
  ·exact Cu (p:=.string d.name::(AU d.frm++(c0++(c1++c2)))) _ (AO g1) (.inr a) e (by simp;rfl) (by simp[Aw,f,g,m]) y
  ·exact Cu (p:=.string d.name::(AU d.frm++(c0++(c1++(c2++c3))))) _ (AO g1) (.inr a) e (by simp;rfl) (by simp[Aw,f,g,m,u]) z
  ·exact Cu (p:=.string d.name::(AU d.frm++(c0++(c1++(c2++(c3++c4)))))) _ (AO g1) (.inr a) e (by simp;rfl) (by simp[Aw,f,g,m,u,A]) B
  ·exact Cu (p:=.string d.name::(AU d.frm++(c0++(c1++(c2++(c3++(c4++c5))))))) _ (AO g1) (.inr a) e (by simp;rfl) (by simp[Aw,f,g,m,u,A,l5]) C
  ·exact Cu (p:=.string d.name::(AU d.frm++(c0++(c1++(c2++(c3++(c4++(c5++c6)))))))) (q:=[]) _ (AO g1) (.inr a) e (by simp) (by simp[Aw,f,g,m,u,A,l5,l6]) E
 ·obtain ⟨h1,h2,h3⟩:=h.farms
  refine AY _ (fun i (d:CE)=> [(d.area,0)]) x.farms _ h1 fun i hi=>?_
  obtain ⟨b,o,cs,g1,a,t,e,_,_,_,c,rfl,j⟩:=h3 i hi
  generalize x.farms[i]=d at*
  exact ⟨Cu (p:=.string d.name::(AU d.on++[.bool d.river])) _ (AO g1) (.inr a) e (by simp;rfl) rfl j,trivial⟩
 ·obtain ⟨h1,h2,h3⟩:=h.rots
  refine AY _ (fun i (d:Br)=> [(d.flow,0),(d.frm,0),(d.to,0)]++Em d.turns) x.rots _ h1 fun i hi=>?_
  obtain ⟨b,o,cs,g1,a,t,e,_,_,c0,c1,c2,rfl,l,n,r,G⟩:=h3 i hi
  generalize x.rots[i]=d at*
  have f:=l.len;have g:=n.len
  refine AB.append ⟨?_,?_,?_,trivial⟩ ?_
  ·exact Cu (p:=.string d.name::(AU d.on++[iV d.rank])) _ (AO g1) (.inr a) e (by simp;rfl) rfl l
  ·exact Cu (p:=.string d.name::(AU d.on++(iV d.rank::c0))) _ (AO g1) (.inr a) e (by simp;rfl) (by simp[Aw,f]) n
  ·exact Cu (p:=.string d.name::(AU d.on++(iV d.rank::(c0++c1)))) _ (AO g1) (.inr a) e (by simp;rfl) (by simp[Aw,f,g]) r
  ·obtain ⟨h1,h2,h3⟩:=G
   refine AY _ (fun k (d:Cb)=> [(d.len,0)]) d.turns _ h1 fun k F=>?_
   obtain ⟨b,o,cs,g1,a,t,e,_,c,rfl,j⟩:=h3 k F
   exact ⟨Cu (p:=AU (d.turns[k]).farm) (q:=[]) _ (AO g1) (.inr a) e (by simp) rfl j,trivial⟩
 ·obtain ⟨h1,h2,h3⟩:=h.rights
  refine AY _ (fun i (d:AW)=> [(d.flow,0),(d.frm,0),(d.to,0),(d.every,0),(d.len,0)]) x.rights _ h1 fun i hi=>?_
  obtain ⟨b,o,cs,g1,a,t,e,_,_,_,c0,c1,c2,c3,c4,rfl,l,n,r,y,z⟩:=h3 i hi
  generalize x.rights[i]=d at*
  have f:=l.len;have g:=n.len;have m:=r.len;have u:=y.len
  refine ⟨?_,?_,?_,?_,?_,trivial⟩
  ·exact Cu (p:=iV d.kind::.string d.name::(AU d.farm++(AU d.reach++[iV d.rank]))) _ (AO g1) (.inr a) e (by simp;rfl) rfl l
  ·exact Cu (p:=iV d.kind::.string d.name::(AU d.farm++(AU d.reach++(iV d.rank::c0)))) _ (AO g1) (.inr a) e (by simp;rfl) (by simp[Aw,f]) n
  ·exact Cu (p:=iV d.kind::.string d.name::(AU d.farm++(AU d.reach++(iV d.rank::(c0++c1))))) _ (AO g1) (.inr a) e (by simp;rfl) (by simp[Aw,f,g]) r
  ·exact Cu (p:=iV d.kind::.string d.name::(AU d.farm++(AU d.reach++(iV d.rank::(c0++(c1++c2)))))) _ (AO g1) (.inr a) e (by simp;rfl) (by simp[Aw,f,g,m]) y
  ·exact Cu (p:=iV d.kind::.string d.name::(AU d.farm++(AU d.reach++(iV d.rank::(c0++(c1++(c2++c3))))))) (q:=[]) _ (AO g1) (.inr a) e (by simp) (by simp[Aw,f,g,m,u]) z
 ·obtain ⟨h1,h2,h3⟩:=h.duties
  refine AY _ (fun i (d:CU)=> [(d.due,0)]) x.duties _ h1 fun i hi=>?_
  obtain ⟨b,o,cs,g1,a,t,e,_,_,_,c,rfl,j⟩:=h3 i hi
  generalize x.duties[i]=d at*
  exact ⟨Cu (p:=.string d.name::(AU d.farm++AU d.reach)) (q:=[]) _ (AO g1) (.inr a) e (by simp) rfl j,trivial⟩
theorem Kt(h:BH N w L cs x)(hr:w.rangeAt L.s 0 cs){Bs:Nat}(d:w.cell? ⟨Bs,0,none⟩=some (.pointer (some ⟨L.s,0,none⟩))):IA L Bs w:=by
 obtain ⟨c0,c1,c2,rfl,z,g1,l⟩:=h.cells
 have A:=z.len;have r:=g1.len;have m:=l.len
 have a:=CY (p:=.string x.name::(c0++(c1++c2))) (c:=[L.lets.v,L.crops.v,L.reaches.v,L.farms.v,L.rots.v,L.rights.v,L.duties.v]) (q:=[]) (o:=0) (b:=L.s) (w:=w) (by simpa using hr)
 have e:(Value.string x.name::(c0++(c1++c2))).length=19:=by simp[A,r,m]
 rw[e] at a
 refine ⟨d,a 0 _ rfl,a 1 _ rfl,a 2 _ rfl,a 3 _ rfl,a 4 _ rfl,a 5 _ rfl,a 6 _ rfl,fun i hi=>?_⟩
 obtain ⟨h1,h2,h3⟩:=h.rots
 obtain ⟨b,o,cs,t,B,C,k,_,_,j,g,f,rfl,n,y,u,_⟩:=h3 i (by omega)
 rw[AO t]
 have:=CY (p:=.string (x.rots[i]'(by omega)).name::(AU (x.rots[i]'(by omega)).on++(iV (x.rots[i]'(by omega)).rank::(j++(g++f))))) (c:=[(A2 L i).v]) (q:=[]) (o:=o+i*23) (b:=b) (w:=w) (by simpa using k)
 have e:(Value.string (x.rots[i]'(by omega)).name::(AU (x.rots[i]'(by omega)).on++(iV (x.rots[i]'(by omega)).rank::(j++(g++f))))).length=22:=by simp[Aw,n.len,y.len,u.len]
 rw[e] at this
 exact this 0 _ rfl
end
structure Us where
 b:Nat
 o:Nat
 to:Int
 at_:Int
 name:ByteArray
 n:Int
def Us.v(u:Us):Array Value:=#[.agg #[.pointer (some ⟨u.b,u.o,none⟩),.int .i64 u.to,.int .i64 u.at_]]
def Nv(op:Int)(len:Nat):Bool:=decide (1<=op)&&(decide (op<=6)&&(if 3<=op then decide (len=2) else decide (len=0)))
def Kd(op lt:Int):Int:=if op=2 then (if 0 < lt then 2 else 1) else 0
def Nw(op lt:Int):Int:=if op=2 then (if 0 < lt then lt - 1 else 0) else 0
mutual
def BY(w:World)(lt:Int):Ex->Nat->Nat->List Us × Bool
 |.mk op _ _ rn ri args,b,o=>if Nv op args.length then (⟨b,o+3,Kd op lt,Nw op lt,rn,ri⟩::(Bv w lt args (w.cell? ⟨b,o+5,none⟩) 0).1,(Bv w lt args (w.cell? ⟨b,o+5,none⟩) 0).2) else ([],false)
def Bv(w:World)(lt:Int):List Ex->Option Value->Nat->List Us × Bool
 |[],_,_=>([],true)
 |e::r,v,i=>match v with
  |some (.slice (some ⟨b,o,none⟩) _ _)=>if (BY w lt e b (o+i*6)).2 then ((BY w lt e b (o+i*6)).1++(Bv w lt r v (i+1)).1,(Bv w lt r v (i+1)).2) else ((BY w lt e b (o+i*6)).1,false)
  |_=>([],false)
end
theorem M7{w:World}{lt:Int}{b o n c:Nat}{e:Ex}:∀(l:List Ex) (i:Nat),Bv w lt (l++[e]) (some (.slice (some ⟨b,o,none⟩) n c)) i=
  if (Bv w lt l (some (.slice (some ⟨b,o,none⟩) n c)) i).2 then ((Bv w lt l (some (.slice (some ⟨b,o,none⟩) n c)) i).1++(BY w lt e b (o+(i+l.length)*6)).1,(BY w lt e b (o+(i+l.length)*6)).2) else Bv w lt l (some (.slice (some ⟨b,o,none⟩) n c)) i
 |[],i=>by
  simp only[yS,Bv,yH,xZ,zD]
  split
  ·rename_i h;simp[h]
  ·rename_i h;simp[h]
 |x::r,i=>by
  simp only[yP,Bv,M7 r (i+1),yx]
  rw[show i+(r.length+1)=i+1+r.length by omega]
  by_cases h1:(BY w lt x b (o+i*6)).2=true
  ·simp only[h1,zD]
   by_cases h2:(Bv w lt r (some (.slice (some ⟨b,o,none⟩) n c)) (i+1)).2=true
   ·simp[h2]
   ·simp[h2]
  ·simp[h1]
theorem M8{w:World}{lt:Int}{b o n c:Nat}:∀(l m:List Ex) (i:Nat),(Bv w lt l (some (.slice (some ⟨b,o,none⟩) n c)) i).2=false->Bv w lt (l++m) (some (.slice (some ⟨b,o,none⟩) n c)) i=Bv w lt l (some (.slice (some ⟨b,o,none⟩) n c)) i
 |[],m,i,h=>by simp[Bv] at h
 |x::r,m,i,h=>by
  simp only[Bv,yP] at h ⊢
  by_cases h1:(BY w lt x b (o+i*6)).2=true
  ·simp only[h1,zD] at h ⊢
   rw[M8 r m (i+1) h]
  ·simp[h1]
theorem NL{w:World}{lt:Int}{b o n c:Nat}:∀(l m:List Ex) (i:Nat),∃post,(Bv w lt (l++m) (some (.slice (some ⟨b,o,none⟩) n c)) i).1=(Bv w lt l (some (.slice (some ⟨b,o,none⟩) n c)) i).1++post
 |[],m,i=>⟨_,rfl⟩
 |x::r,m,i=>by
  simp only[Bv,yP]
  by_cases h1:(BY w lt x b (o+i*6)).2=true
  ·simp only[h1,zD]
   obtain ⟨post,a⟩:=NL r m (i+1)
   exact ⟨post,by rw[a];simp⟩
  ·simp only[h1]
   exact ⟨[],by simp⟩
mutual
def Rn(w:World)(C:Addr->Prop):Ex->Nat->Nat->Prop
 |.mk op _ _ _ _ args,b,o=>∃a cap,(w.cell? ⟨b,o,none⟩=some (.int .i64 op)∧C ⟨b,o,none⟩)∧(w.cell? ⟨b,o+5,none⟩=some (.slice a args.length cap)∧C ⟨b,o+5,none⟩)∧args.length<=140737488355328∧JT w C a 0 args
def JT(w:World)(C:Addr->Prop)(a:Option Addr):Nat->List Ex->Prop
 |_,[]=>True
 |i,e::r=>(∃b o,a=some ⟨b,o,none⟩∧Rn w C e b (o+i*6))∧JT w C a (i+1) r
end
theorem NM{w:World}{C:Addr->Prop}{a:Option Addr}:∀ {l:List Ex} {k:Nat},JT w C a k l->∀i (h:i < l.length),∃b o,a=some ⟨b,o,none⟩∧Rn w C l[i] b (o+(k+i)*6)
 |[],_,_,i,h=>by simp at h
 |e::r,k,hr,i,h=>by
  rw[JT] at hr
  cases i with
  |zero=>exact hr.1
  |succ i=>
   obtain ⟨b,o,h1,h2⟩:=NM hr.2 i (by simpa using h)
   exact ⟨b,o,h1,by rw[show k+(i+1)=k+1+i by omega];simpa using h2⟩
theorem Ro{w:World}{lt:Int}{b o n c:Nat}{l:List Ex}{i:Nat}(h:i < l.length)(a:(Bv w lt (l.take i) (some (.slice (some ⟨b,o,none⟩) n c)) 0).2=true):
  Bv w lt (l.take (i+1)) (some (.slice (some ⟨b,o,none⟩) n c)) 0=((Bv w lt (l.take i) (some (.slice (some ⟨b,o,none⟩) n c)) 0).1++(BY w lt l[i] b (o+i*6)).1,(BY w lt l[i] b (o+i*6)).2):=by
 have d:(l.take i).length=i:=by rw[zc];omega
 rw[yJ h,M7,a,yw rfl,d,yy]
structure J6 (J:Nat->(Nat->Prop)->World->Prop) (O:Nat->Prop) (B0 l By Bi k:Nat) (W:World):Prop where
 j:J k O W
 size:B0<=W.heap.size
 own:∀b,O b->b < W.heap.size
 y:O By∧W.cell? ⟨By,0,none⟩=some (.func (.yield l) #[] #[])
 i:O Bi∧W.cell? ⟨Bi,0,none⟩=some (.func (.func 71) #[] #[.pointer (some ⟨By,0,none⟩),.pointer (some ⟨Bi,0,none⟩)])
section
variable{J:Nat->NP->World->Prop}{Jx:NP->World->Prop}{Jp:List PanicEntry->NP->World->Prop}{O:NP}{B0 l By Bi k k':Nat}{W W':World}
theorem J6.below(d:Ca J)(h:J6 J O B0 l By Bi k W)(hb:Below W.heap.size W W'):J6 J O B0 l By Bi k W':=
 ⟨d k O W O W' h.j hb.size hb.os hb.tape hb.output (fun b _ a=>hb.block b a) (fun _=>.inl),yu h.size hb.size,fun b c=>yv (h.own b c) hb.size,
  ⟨h.y.1,(hb.cell (p:=⟨By,0,none⟩) (h.own _ h.y.1)).trans h.y.2⟩,⟨h.i.1,(hb.cell (p:=⟨Bi,0,none⟩) (h.own _ h.i.1)).trans h.i.2⟩⟩
theorem J6.same(h:J6 J O B0 l By Bi k W)(c:J k' O W')(hs:AL O W W'):J6 J O B0 l By Bi k' W':=
 ⟨c,yu h.size hs.1,fun b a=>yv (h.own b a) hs.1,⟨h.y.1,CX hs h.y.1 h.y.2⟩,⟨h.i.1,CX hs h.i.1 h.i.2⟩⟩
theorem J6.sameBelow(h:J6 J O B0 l By Bi k W)(hb:Below W.heap.size W W'):AL O W W':=⟨hb.size,fun b a=>hb.block b (h.own b a)⟩
def NO(J:Nat->NP->World->Prop)(Jx:NP->World->Prop)(Jp:List PanicEntry->NP->World->Prop)(O:NP)(k:Nat)(ok:Bool)(W:World)(e:Ending)(W':World):Prop:=
 (∃r:Bool,e=.returned (.bool r)∧AL O W W'∧((r=true∧ok=true∧J k O W')∨(r=false∧Jx O W')))∨∃a,e=.panicked a∧Jp a O W'∧AL O W W'
theorem NO.from(hs:AL O W W'){e:Ending}{a:World}{ok:Bool}(h:NO J Jx Jp O k ok W' e a):NO J Jx Jp O k ok W e a:=by
 rcases h with ⟨r,h1,h2,h3⟩|h
 ·exact .inl ⟨r,h1,hs.trans h2,h3⟩
 ·obtain ⟨b,h1,h2,h3⟩:=h
  exact .inr ⟨b,h1,h2,hs.trans h3⟩
end
end Go.Proofs.YtjofgpfocadomaaGreatDoor
namespace Go.Proofs.YtjofgpfocadomaaGreatDoor
open Go.RowKit Go.Maps Go.ChangeMaps Go.WideMaps Go.MapKept
open Go.WideElems (Fit rd rg pl rd_val elemAt)
theorem NT:Keyed Tryz.prog 9:=string_keyed j7
theorem UR(w:World):(zeroValue 3).run Tryz.prog w=.ok (.int .i64 0) w:=by kernel_rfl
def CG:LB->ByteArray->Option Nat
 |[],_=>none
 |x::r,s=>if x=s then some 0 else (CG r s).map (·+1)
theorem Gn{l:LB}{s:ByteArray}(h:s∉l):CG l s=none:=by
 induction l with
 |nil=>rfl
 |cons x r ih=>
  rw[yI,not_or] at h
  rw[CG,yt (fun e=>h.1 e.symm),ih h.2];rfl
theorem J8{l:LB}{s:ByteArray}(h:s∈l):∃i,CG l s=some i∧∃h:i < l.length,l[i]=s:=by
 induction l with
 |nil=>simp at h
 |cons x r ih=>
  rw[CG]
  by_cases a:x=s
  ·rw[yw a]
   exact ⟨0,rfl,by simp,by simpa using a⟩
  ·rw[yt a]
   obtain ⟨i,h1,h2,h3⟩:=ih ((yI.1 h).resolve_left (fun e=>a e.symm))
   exact ⟨i+1,by rw[h1];rfl,by simpa using h2,by simpa using h3⟩
theorem Px{l:LB}{x:ByteArray}(h:x∉l)(s:ByteArray):CG (l++[x]) s=if s=x then some l.length else CG l s:=by
 induction l with
 |nil=>
  simp only[yS,CG,yH]
  by_cases hs:s=x
  ·rw[yw hs,yw hs.symm]
  ·rw[yt hs,yt (fun e=>hs e.symm)];rfl
 |cons y r ih=>
  rw[yI,not_or] at h
  rw[yP,CG,CG,ih h.2]
  by_cases a:y=s
  ·rw[yw a,yw a]
   by_cases hs:s=x
   ·exact absurd (hs.symm.trans a.symm) h.1
   ·rw[yt hs]
  ·rw[yt a,yt a]
   by_cases hs:s=x
   ·rw[yw hs,yw hs];simp
   ·rw[yt hs,yt hs]
def BR(w:World)(m:Nat)(b:LB):Prop:=
 ∃c a,w.heap[m]?=some (.map c a)∧Fit (H:=Unit) Tryz.prog 9 (plainElem Tryz.prog 3) c a∧c.size=b.length∧
  ∀s:ByteArray,s.size<=maxLen->∀d:DataW Unit,(DataW.map ((c.toList.map (rg Tryz.prog 9 (plainElem Tryz.prog 3))).foldr DataW.insert [])).atKey (.string s.data.toList) d=(match CG b s with|some i=>.lit (.int .i64 (i:Int))|none=>d)
theorem Kz(w:World):BR (w.alloc (.map #[] 0)) w.heap.size []:=
 ⟨#[],0,(MapKept.heap_alloc w _).1,⟨by simp,stamped_empty 0,by simp⟩,rfl,fun s _ a=>rfl⟩
theorem BR.block{w w':World}{m:Nat}{b:LB}(h:BR w m b)(hb:w'.heap[m]?=w.heap[m]?):BR w' m b:=by
 obtain ⟨c,a,h1,h2⟩:=h
 exact ⟨c,a,hb.trans h1,h2⟩
theorem BR.lt{w:World}{m:Nat}{a:LB}(h:BR w m a):m < w.heap.size:=by
 obtain ⟨c,b,h1,h2⟩:=h
 exact (yd.1 h1).1
theorem BR.size{w:World}{m:Nat}{b:LB}(h:BR w m b):∃c a,w.heap[m]?=some (.map c a)∧c.size=b.length:=by
 obtain ⟨c,a,h1,_,h2,_⟩:=h
 exact ⟨c,a,h1,h2⟩
def I9(a:LB)(s:ByteArray):Value:=
 match CG a s with
 |some i=>.tuple #[.int .i64 (i:Int),.bool true]
 |none=>.tuple #[.int .i64 0,.bool false]
theorem BR.look{w:World}{m:Nat}{c:LB}(h:BR w m c)(s:ByteArray)(hs:s.size<=maxLen):
  (Instr.lookup 137 (.map (some m)) (.string s) true).run Tryz.prog w=.ok (I9 c s) w:=by
 obtain ⟨p,j,hb,F,_,d⟩:=h
 have e:=keyOf_string_mk (P:=Tryz.prog) j7 hs
 rcases Maps.fit_look (t:=137) true NT qH (UR w) hb F e with ⟨b,_,o⟩|⟨q,y,_,_,b,n,k,_⟩
 ·rw[b]
  have h1:=o .nil
  rw[d s hs] at h1
  unfold I9
  cases g:CG c s with
  |none=>rfl
  |some i=>rw[g] at h1;cases h1
 ·rw[b]
  obtain ⟨a,l,f,_⟩:=plainElem_int_inv (H:=Unit) qQ n
  have h1:=k .nil
  rw[d s hs] at h1
  unfold I9
  cases g:CG c s with
  |none=>rw[g,f] at h1;cases h1
  |some i=>
   rw[g,f] at h1
   simp only[DataW.lit.injEq,Lit.int.injEq,true_and] at h1
   rw[l,<-h1];rfl
theorem KA{H:Type}(p:Lit × DataW H):∀l:List (Lit × DataW H),p∈l.foldr DataW.insert []->p∈l
 |[],h=>h
 |x::r,h=>by
  rw[List.foldr_cons,mem_insert_iff] at h
  exact h.elim (fun e=>by rw[e];exact List.mem_cons_self) (fun h=>List.mem_cons_of_mem _ (KA p r h))
theorem BR.put{w:World}{m:Nat}{a:LB}(h:BR w m a)(s:ByteArray)(hs:s.size<=maxLen)(z:s∉a)(A:a.length < 1000000):
  ∃w',(Instr.mapUpdate 137 (.map (some m)) (.string s) (.int .i64 (a.length:Int))).run Tryz.prog w=.ok () w'∧BR w' m (a++[s])∧w.grownBy w' (some m):=by
 obtain ⟨j,n,hb,F,o,k⟩:=h
 have b:=keyOf_string_mk (P:=Tryz.prog) j7 hs
 have C:plainElem (H:=Unit) Tryz.prog 3 (iV (a.length:Int))=some (.lit (.int .i64 (a.length:Int)),[]):=plainElem_int qQ (by simp only[Lit.wf,yG,z7];exact ⟨by have:IntKind.min .i64= -9223372036854775808:=rfl;omega,by have:IntKind.max .i64=9223372036854775807:=rfl;omega⟩)
 obtain ⟨g,c,l,F',d,_⟩:=Maps.fit_store (R':=plainElem Tryz.prog 3) (t:=137) NT qH hb F (by unfold maxLen;omega) (fun _ _ _ _ A=>A) b C
 have q:∀x∈j.toList,x.key≠.string s:=by
  rcases Maps.fit_look (t:=137) true NT qH (UR w) hb F b with ⟨_,h,_⟩|⟨G,y,_,_,_,_,u,_⟩
  ·exact h
  ·have h1:=u .nil
   have h2:=u (.lit (.bool true))
   rw[k s hs,Gn z] at h1 h2
   rw[<-h1] at h2
   cases h2
 refine ⟨_,l,⟨g,c,heap_setBlock_same hb _,F',?_,?_⟩,⟨rfl,rfl,rfl,by simp[setBlock],fun i _ hi=>heap_setBlock_other hb _ (fun e=>hi (by rw[e]))⟩⟩
 ·have E:g.size=((g.toList.map (rg Tryz.prog 9 (plainElem (H:=Unit) Tryz.prog 3))).foldr DataW.insert []).length:=by rw[length_sorted];simp
  rw[E,d]
  unfold putKey
  rw[length_insert]
  have v:=filter_all NT F b q
  have B:(((j.toList.map (rg Tryz.prog 9 (plainElem (H:=Unit) Tryz.prog 3))).foldr DataW.insert []).filter (notKey (.string s.data.toList)))=((j.toList.map (rg Tryz.prog 9 (plainElem (H:=Unit) Tryz.prog 3))).foldr DataW.insert []):=by
   rw[List.filter_eq_self] at v ⊢
   exact fun p r=>v p (KA p _ r)
  rw[B,length_sorted]
  simp[o]
 ·intro t D I
  rw[d]
  have r:(DataW.map (putKey (.string s.data.toList) (.lit (.int .i64 (a.length:Int))) ((j.toList.map (rg Tryz.prog 9 (plainElem (H:=Unit) Tryz.prog 3))).foldr DataW.insert [])))=(DataW.map ((j.toList.map (rg Tryz.prog 9 (plainElem (H:=Unit) Tryz.prog 3))).foldr DataW.insert [])).put (.string s.data.toList) (.lit (.int .i64 (a.length:Int))):=rfl
  rw[r,Px z]
  by_cases f:t=s
  ·subst f
   rw[yw rfl,atKey_put_same ⟨_,rfl⟩ (NT.key b)]
  ·rw[yt f,atKey_put_other (fun e=>f (by simp at e;exact ByteArray.ext (by simpa using e))),k t D]
end Go.Proofs.YtjofgpfocadomaaGreatDoor
namespace Go.Proofs.YtjofgpfocadomaaGreatDoor
open Go Go.RowKit
section
variable{P:Program}{ops:Array Oper}{Q:QT}{md:Region.Mode}{T:World->Prop}{k:Nat}
def E4(P:Program)(md:Region.Mode)(ops:Array Oper)(Q:QT)(T:World->Prop)(k:Nat):Nat->Array Bool->Act->World->Prop
 |0,listed,a,w=>Region.ready md ops listed=[]∧Q .normal a w
 |fuel+1,listed,a,w=>
  (Region.ready md ops listed=[]->Q .normal a w)∧
  ∀i∈Region.ready md ops listed,wpOp P ops Q i (fun b w'=>((listed.setIfInBounds i true).getD k true=false->T w')∧E4 P md ops Q T k fuel (listed.setIfInBounds i true) b w') a w
theorem KH:∀(fuel:Nat) (b:Array Bool) (a:Act) (w:World),E4 P md ops Q T k fuel b a w->wpAny P md ops Q fuel b a w
 |0,_,_,_,h=>h
 |fuel+1,_,_,_,h=>⟨h.1,fun i hi=>wpOp_mono (fun d w' c=>KH fuel _ d w' c.2) (h.2 i hi)⟩
theorem MU{i:Nat}{s:Oper}{v:Value}(hi:ops[i]?=some s)(q:∀(j:Nat) (o:Oper) cs b,ops[j]?=some o->o.op≠.select cs b)
 (N:∀c a w,Q (.panic c) (a.put s.dst v) w->Q (.panic c) a w)(t:k≠i)(L:∀ok,ops[k]?=some ok->∃e∈ok.after,Region.binds md e=true∧e.on=i):
  ∀(fuel:Nat) (d:Array Bool) (a:Act) (w:World),
   (∀j p,ops[j]?=some p->j≠i->d.getD j true=false->(∀e∈p.after,Region.binds md e=true->e.on≠i)->s.apart ops p=true)->
   i∈Region.ready md ops d->YieldsIf P ops T s v a->d.getD k true=false->T w->
   E4 P md ops Q T k fuel (d.setIfInBounds i true) (a.put s.dst v) w->E4 P md ops Q T k (fuel+1) d a w:=by
 intro fuel
 induction fuel with
 |zero=>
  intro d a w _ hr C x A H
  refine ⟨fun h=>(by rw[h] at hr;cases hr),fun j D=>?_⟩
  by_cases f:j=i
  ·subst f;exact C.wpOp hi A ⟨fun _=>A,H⟩
  ·have:=ready_mono D f
   rw[H.1] at this
   cases this
 |succ fuel ih=>
  intro d a w g hr C x A H
  refine ⟨fun h=>(by rw[h] at hr;cases hr),fun j D=>?_⟩
  by_cases f:j=i
  ·subst f;exact C.wpOp hi A ⟨fun _=>A,H⟩
  ·have h1:=H.2 j (ready_mono D f)
   obtain ⟨r,p,l,y⟩:=xx.1 D
   have n:∀e∈p.after,Region.binds md e=true->e.on≠i:=fun e F hb E=>by
    have h1:=y e F hb
    have h0:=(xx.1 hr).1
    rw[E] at h1
    rcases zU i d.size with G|G
    ·simp[G] at h0 h1;rw[h0] at h1;cases h1
    ·simp[xE G] at h1
   have z:k≠j:=fun e=>by
    subst e
    obtain ⟨e,F,hb,I⟩:=L p l
    exact n e F hb I
   have h2:=wpOp_putIf l (g j p l f r n) (fun cs b=>q i s cs b hi) (fun cs b=>q j p cs b l) N C h1
   have m:∀k ok,ops[k]?=some ok->k≠i->(d.setIfInBounds j true).getD k true=false->
     (∀e∈ok.after,Region.binds md e=true->e.on≠i)->s.apart ops ok=true:=fun k ok x t u J=>by
    refine g k ok x t ?_ J
    by_cases B:j=k
    ·subst B;exact r
    ·rw[xk true B] at u;exact u
   have K:(d.setIfInBounds j true).getD k true=false:=by rw[xk true (xi z)];exact x
   refine wpOp_mono (fun O w' h3=>?_) h2
   have M:T w':=h3.2.1 (by rw[xk true (xi z),xk true (xi t)];exact x)
   refine ⟨fun _=>M,ih (d.setIfInBounds j true) O w' m (ready_mono hr (xi f)) h3.1 K M ?_⟩
   rw[Array.setIfInBounds_comm _ _ f]
   exact h3.2.2
theorem LK{i:Nat}{r:Oper}{v:Value}(hi:ops[i]?=some r)(n:∀(j:Nat) (o:Oper) cs b,ops[j]?=some o->o.op≠.select cs b)
 (I:∀c a w,Q (.panic c) (a.put r.dst v) w->Q (.panic c) a w)(g:k≠i):
  ∀(fuel:Nat) (d:Array Bool) (a:Act) (w:World),
   (∀j s,ops[j]?=some s->j≠i->d.getD j true=false->(∀e∈s.after,Region.binds md e=true->e.on≠i)->r.apart ops s=true)->
   i∈Region.ready md ops d->YieldsIf P ops (fun _=>True) r v a->(d.getD k true=false->T w)->
   E4 P md ops Q T k fuel (d.setIfInBounds i true) (a.put r.dst v) w->E4 P md ops Q T k (fuel+1) d a w:=by
 intro fuel
 induction fuel with
 |zero=>
  intro d a w _ hr B F H
  refine ⟨fun h=>(by rw[h] at hr;cases hr),fun j C=>?_⟩
  by_cases f:j=i
  ·subst f;exact B.wpOp hi trivial ⟨fun h=>F (by rw[xk true (xi g)] at h;exact h),H⟩
  ·have:=ready_mono C f
   rw[H.1] at this
   cases this
 |succ fuel ih=>
  intro d a w l hr B F H
  refine ⟨fun h=>(by rw[h] at hr;cases hr),fun j C=>?_⟩
  by_cases f:j=i
  ·subst f;exact B.wpOp hi trivial ⟨fun h=>F (by rw[xk true (xi g)] at h;exact h),H⟩
  ·have h1:=H.2 j (ready_mono C f)
   obtain ⟨p,s,q,y⟩:=xx.1 C
   have u:∀e∈s.after,Region.binds md e=true->e.on≠i:=fun e L hb D=>by
    have h1:=y e L hb
    have h0:=(xx.1 hr).1
    rw[D] at h1
    rcases zU i d.size with t|t
    ·simp[t] at h0 h1;rw[h0] at h1;cases h1
    ·simp[xE t] at h1
   have h2:=wpOp_putIf q (l j s q f p u) (fun cs b=>n i r cs b hi) (fun cs b=>n j s cs b q) I B h1
   have m:∀k ok,ops[k]?=some ok->k≠i->(d.setIfInBounds j true).getD k true=false->
     (∀e∈ok.after,Region.binds md e=true->e.on≠i)->r.apart ops ok=true:=fun k ok K g x E=>by
    refine l k ok K g ?_ E
    by_cases A:j=k
    ·subst A;exact p
    ·rw[xk true A] at x;exact x
   refine wpOp_mono (fun J w' h3=>?_) h2
   have G:(d.setIfInBounds j true).getD k true=false->T w':=fun h=>h3.2.1 (by
    by_cases z:k=j
    ·subst z
     rcases zU k d.size with t|t
     ·simp[t] at h
     ·simp at h
    ·rw[xk true (xi z)] at h ⊢
     rw[xk true (xi g)];exact h)
   refine ⟨G,ih (d.setIfInBounds j true) J w' m (ready_mono hr (xi f)) h3.1 G ?_⟩
   rw[Array.setIfInBounds_comm _ _ f]
   exact h3.2.2
theorem Ai{i:Nat}{d:Oper}{v:Value}{fuel:Nat}{b:Array Bool}{a:Act}{w:World}(hi:ops[i]?=some d)
 (hs:Region.noSelect ops=true)(f:Region.free md ops b i=true)(hr:(Region.ready md ops b).contains i=true)
 (e:∀c a w,Q (.panic c) (a.put d.dst v) w->Q (.panic c) a w)(l:(k !=i)=true)(g:YieldsIf P ops (fun _=>True) d v a)(j:b.getD k true=false->T w)
 (h:E4 P md ops Q T k fuel (b.setIfInBounds i true) (a.put d.dst v) w):E4 P md ops Q T k (fuel+1) b a w:=
 LK hi (Region.noSelect_spec hs) e (by simpa using l) fuel b a w (Region.free_spec hi f) (by simpa using hr) g j h
def T0(md:Region.Mode)(ops:Array Oper)(k i:Nat):Bool:=match ops[k]? with
 |none=>false
 |some o=>o.after.any fun e=>Region.binds md e&&e.on==i
theorem Bb{i:Nat}{f:Oper}{v:Value}{fuel:Nat}{b:Array Bool}{a:Act}{w:World}(hi:ops[i]?=some f)
 (hs:Region.noSelect ops=true)(n:Region.free md ops b i=true)(hr:(Region.ready md ops b).contains i=true)
 (j:∀c a w,Q (.panic c) (a.put f.dst v) w->Q (.panic c) a w)(d:(k !=i&&!b.getD k true&&T0 md ops k i)=true)(l:YieldsIf P ops T f v a)(o:T w)
 (h:E4 P md ops Q T k fuel (b.setIfInBounds i true) (a.put f.dst v) w):E4 P md ops Q T k (fuel+1) b a w:=by
 simp only[yG,bne_iff_ne,Bool.not_eq_true'] at d
 refine MU hi (Region.noSelect_spec hs) j d.1.1 (fun ok g=>?_) fuel b a w (Region.free_spec hi n) (by simpa using hr) l d.1.2 o h
 have:=d.2
 unfold T0 at this
 rw[g] at this
 simp only[xV,yG,qr] at this
 obtain ⟨e,m,h1,h2⟩:=this
 exact ⟨e,m,h1,h2⟩
theorem Al{i:Nat}{o:Oper}{fuel:Nat}{b:Array Bool}{a:Act}{w:World}(hr:Region.ready md ops b=[i])(d:ops[i]?=some o)
 (h:∀K:Act->World->Prop,Hid (∀a w,((b.setIfInBounds i true).getD k true=false->T w)->E4 P md ops Q T k fuel (b.setIfInBounds i true) a w->K a w)->if Region.wanted o (yielded ops a.tmps)=true then Oper.wp P o a w K Q else K (a.put o.dst undef) w):E4 P md ops Q T k (fuel+1) b a w:=by
 refine ⟨fun h0=>(by rw[hr] at h0;cases h0),fun j c=>?_⟩
 rw[hr] at c
 obtain rfl:=ze.1 c
 exact wpOp_step d (fun f e=>h f (yb fun a w g l=>e a w ⟨g,l⟩))
theorem DO{fuel:Nat}{b:Array Bool}{a:Act}{w:World}(hr:Region.ready md ops b=[])(h:Q .normal a w):E4 P md ops Q T k fuel b a w:=by
 cases fuel with
 |zero=>exact ⟨hr,h⟩
 |succ n=>exact ⟨fun _=>h,by rw[hr];simp⟩
theorem DP{id:Nat}{a:Act}{w:World}(b:P.follows .mixedOrders=true)(T:World->Prop)(k:Nat)
 (h:E4 P .any ops Q T k ops.size (Array.replicate ops.size false) a w.drew):(Code.region id ops true).wp P Q a w:=
 wp_region_any b (KH _ _ _ _ h)
end
end Go.Proofs.YtjofgpfocadomaaGreatDoor
namespace Go.Proofs.YtjofgpfocadomaaGreatDoor
open Go
structure Je (ops:Array Oper) (a₀:Act) (Ext:Array Bool->Array Value->World->Prop) (Pp:Nat->Value->World->Prop) (listed:Array Bool) (a:Act) (w:World):Prop where
 size:listed.size=ops.size
 down:∀m,listed.getD m false=true->∀o,ops[m]?=some o->∀e∈o.after,Region.binds .any e=true->listed.getD e.on false=true
 ext:Ext listed a.tmps w
 defers:a.defers=a₀.defers
 tmps:a.tmps.size=a₀.tmps.size
 done:∀i,listed.getD i false=true->∀o t,ops[i]?=some o->o.dst=some t->Pp i (a.tmps.getD t undef) w
 free:∀k,(∀i,listed.getD i false=true->∀o,ops[i]?=some o->o.dst≠some k)->a.tmps.getD k undef=a₀.tmps.getD k undef
theorem Ay{a:Act}{t:Nat}(v:Value)(h:t < a.tmps.size):(a.put (some t) v).tmps.getD t undef=v:=by
 simp[Act.put,h]
theorem Ch{a:Act}{t k:Nat}(v:Value)(h:t≠k):(a.put (some t) v).tmps.getD k undef=a.tmps.getD k undef:=by
 simp[Act.put,h]
def FK(ops:Array Oper):Bool:=(ops.toList.filterMap (·.dst)).Nodup&&(List.range ops.size).all fun i=>(ops[i]?).all fun o=>o.after.all fun e=>decide (e.on < i)||!Region.binds .any e
def H7(n:Nat)(ops:Array Oper):Bool:=ops.all fun o=>o.dst.all fun t=>decide (t < n)
theorem QL:∀ {l:List Oper},(l.filterMap (·.dst)).Nodup->∀ {i j:Nat} {c d:Oper} {t:Tmp},l[i]?=some c->l[j]?=some d->c.dst=some t->d.dst=some t->i=j
 |[],_,i,_,_,_,_,h,_,_,_=>by simp at h
 |x::r,hn,i,j,c,d,t,hi,b,di,dj=>by
  have hr:(r.filterMap (·.dst)).Nodup:=by
   rw[List.filterMap_cons] at hn
   split at hn
   ·exact hn
   ·exact (List.nodup_cons.1 hn).2
  have a:∀ {k:Nat} {o:Oper},r[k]?=some o->o.dst=some t->x.dst≠some t:=by
   intro k o f hd e
   rw[List.filterMap_cons,e] at hn
   exact (List.nodup_cons.1 hn).1 (List.mem_filterMap.2 ⟨o,zX f,hd⟩)
  cases i with
  |zero=>
   cases j with
   |zero=>rfl
   |succ j=>
    simp only[xT,za] at hi
    subst hi
    exact (a (by simpa using b) dj di).elim
  |succ i=>
   cases j with
   |zero=>
    simp only[xT,za] at b
    subst b
    exact (a (by simpa using hi) di dj).elim
   |succ j=>exact yF (·+1) (QL hr (by simpa using hi) (by simpa using b) di dj)
variable{P:Program}{ops:Array Oper}{Q:QT}
theorem N3{l:Array Bool}{i:Nat}(h:l.getD i false=true):i < l.size:=by
 rcases zU i l.size with a|a
 ·exact a
 ·simp[xE a] at h
def KT(ops:Array Oper):Nat->Nat->Nat->Bool
 |0,_,_=>false
 |f+1,j,i=>(ops[j]?).any fun o=>o.after.any fun e=>Region.binds .any e&&(e.on==i||KT ops f e.on i)
theorem A1{a:Array Bool}(hd:∀m,a.getD m false=true->∀o,ops[m]?=some o->∀e∈o.after,Region.binds .any e=true->a.getD e.on false=true):
  ∀(f j i:Nat),KT ops f j i=true->a.getD j false=true->a.getD i false=true
 |0,_,_,h,_=>by cases h
 |f+1,j,i,h,hj=>by
  rw[KT] at h
  cases c:ops[j]? with
  |none=>rw[c] at h;cases h
  |some o=>
   rw[c,Option.any_some,xV] at h
   obtain ⟨e,g,b⟩:=h
   simp only[yG,Bool.or_eq_true,qr] at b
   have d:=hd j hj o c e g b.1
   rcases b.2 with h2|h2
   ·rw[<-h2];exact d
   ·exact A1 hd f e.on i h2 d
theorem Je.next{H:Act}{s:Array Bool->Array Value->World->Prop}{E:Nat->Value->World->Prop}{P:Nat->World->World->Prop}(x:FK ops=true)(p:H7 H.tmps.size ops=true)
 (N:∀i j v w w',j≠i->(∀f,KT ops f j i=false)->P i w w'->E j v w->E j v w'){b:Array Bool}{a:Act}{w:World}(h:Je ops H s E b a w){i:Nat}{o:Oper}(hi:i∈Region.ready .any ops b)(g:ops[i]?=some o)
 {v:Value}{w':World}(W:s (b.setIfInBounds i true) (a.put o.dst v).tmps w')(I:P i w w')(V:E i v w'):Je ops H s E (b.setIfInBounds i true) (a.put o.dst v) w':=by
 obtain ⟨q,y,O,A⟩:=xx.1 hi
 obtain rfl:y=o:=yi (O.symm.trans g)
 have D:i < b.size:=by rw[h.size];exact (yd.1 g).1
 have l:∀ {m:Nat},(b.setIfInBounds i true).getD m false=true->m=i∨b.getD m false=true:=by
  intro m d
  by_cases e:i=m
  ·exact .inl e.symm
  ·rw[xk false e] at d;exact .inr d
 unfold FK at x
 rw[yG,z7] at x
 have C:∀ {i j:Nat} {R S:Oper} {t:Tmp},ops[i]?=some R->ops[j]?=some S->R.dst=some t->S.dst=some t->i=j:=fun hi X U T=>
  QL x.1 (by simpa using hi) (by simpa using X) U T
 have J:∀ {i:Nat} {o:Oper} {t:Tmp},ops[i]?=some o->o.dst=some t->t < H.tmps.size:=by
  intro i o t g hd
  unfold H7 at p
  rw[zu] at p
  have:=p o (zV g)
  rw[hd] at this
  simpa using this
 refine ⟨by simp[h.size],?_,W,?_,?_,?_,?_⟩
 ·intro m d B c e z hb
  rcases l d with rfl|d
  ·obtain rfl:=yi (c.symm.trans g)
   exact getD_set_true (A e z hb)
  ·exact getD_set_true (h.down m d B c e z hb)
 ·rw[<-h.defers];unfold Act.put;cases y.dst<;>rfl
 ·rw[<-h.tmps];unfold Act.put;cases y.dst<;>simp
 ·intro m d B t c hd
  by_cases e:m=i
  ·subst e
   obtain rfl:=yi (c.symm.trans g)
   rw[hd,Ay _ (by rw[h.tmps];exact J g hd)]
   exact V
  ·have F:=(l d).resolve_left e
   have M:∀f,KT ops f m i=false:=by
    intro f
    rw[yn]
    intro hb
    have G:=A1 h.down f m i hb F
    simp[D] at q G
    rw[G] at q;cases q
   have n:=N _ _ _ _ _ e M I (h.done m F B t c hd)
   cases r:y.dst with
   |none=>exact n
   |some u=>
    rw[Ch _ (fun L=>e (C c g hd (by rw[r,L])))]
    exact n
 ·intro k Q
  have K:=h.free k (fun m d B c=>Q m (getD_set_true d) B c)
  rw[<-K]
  cases r:y.dst with
  |none=>rfl
  |some u=>
   refine Ch _ (fun L=>?_)
   refine Q i ?_ y g (by rw[r,L])
   simp[D]
theorem KU(c:FK ops=true){a:Array Bool}(hs:a.size=ops.size)(h:Region.ready .any ops a=[]):∀i,i < ops.size->a.getD i false=true:=by
 intro i
 induction i using Nat.strongRecOn with
 |ind i ih=>
  intro hi
  by_cases j:a.getD i false=true
  ·exact j
  ·exfalso
   have f:a.getD i true=false:=by
    have:i < a.size:=by omega
    simp[this] at j ⊢
    exact j
   have b:i∈Region.ready .any ops a:=by
    refine xx.2 ⟨f,ops[i],by simp[hi],fun e k g=>?_⟩
    have d:e.on < i:=by
     unfold FK at c
     rw[yG,yR] at c
     have h1:=c.2 i (zg.2 hi)
     simp only[Array.getElem?_eq_getElem hi,Option.all_some,zu] at h1
     have h2:=h1 e k
     rw[g] at h2
     simpa using h2
    exact ih e.on d (by omega)
   rw[h] at b
   cases b
theorem RN{A:Act}{m:Array Bool->Array Value->World->Prop}{u:Nat->Value->World->Prop}{F:Nat->World->World->Prop}(y:FK ops=true)(B:H7 A.tmps.size ops=true)
 (D:∀i j v w w',j≠i->(∀f,KT ops f j i=false)->F i w w'->u j v w->u j v w')
 (s:∀i b a w,Je ops A m u b a w->i∈Region.ready .any ops b->∀o,ops[i]?=some o->wpOp P ops Q i (fun E w'=>∃v,E=a.put o.dst v∧m (b.setIfInBounds i true) (a.put o.dst v).tmps w'∧F i w w'∧u i v w') a w)
 (q:∀b a w,(∀i,i < ops.size->b.getD i false=true)->Je ops A m u b a w->Q .normal a w):
  ∀(fuel:Nat) (b:Array Bool) (a:Act) (w:World),(∀i,i < ops.size->b.getD i false=true)∨((List.range ops.size).filter fun i=>!b.getD i false).length<=fuel->Je ops A m u b a w->wpAny P .any ops Q fuel b a w:=by
 intro fuel
 induction fuel with
 |zero=>
  intro b a w t hM
  have n:∀i,i < ops.size->b.getD i false=true:=by
   rcases t with t|t
   ·exact t
   ·intro i hi
    have h0:=zl.1 (Nat.le_zero.1 t)
    have:=List.filter_eq_nil_iff.1 h0 i (zg.2 hi)
    simpa using this
  refine ⟨?_,q _ _ _ n hM⟩
  cases hr:Region.ready .any ops b with
  |nil=>rfl
  |cons i r=>
   exfalso
   have hi:i∈Region.ready .any ops b:=by rw[hr];simp
   obtain ⟨c,o,z,_⟩:=xx.1 hi
   have d:=(yd.1 z).1
   have:=n i d
   have k:i < b.size:=by rw[hM.size];exact d
   simp[k] at c this
   rw[this] at c;cases c
 |succ fuel ih=>
  intro b a w t hM
  refine ⟨fun hr=>q _ _ _ (KU y hM.size hr) hM,fun i hi=>?_⟩
  obtain ⟨c,o,z,_⟩:=xx.1 hi
  have d:=(yd.1 z).1
  have k:i < b.size:=by rw[hM.size];exact d
  have g:b.getD i false=false:=by simp[k] at c ⊢;exact c
  refine wpOp_mono (fun E w' K=>?_) (s i b a w hM hi o z)
  obtain ⟨v,rfl,I,C,H⟩:=K
  refine ih _ _ _ (.inr ?_) (hM.next y B D hi z I C H)
  have J:=t.resolve_left (fun h=>by rw[h i d] at g;cases g)
  have x:((List.range ops.size).filter fun j=>!(b.setIfInBounds i true).getD j false)=((List.range ops.size).filter fun j=>!b.getD j false).filter fun j=>decide (j≠i):=by
   rw[List.filter_filter]
   refine List.filter_congr fun j _=>?_
   by_cases e:i=j
   ·subst e;simp[k]
   ·rw[xk false e];simp[xi e]
  rw[x]
  have G:=(List.length_filter_lt_length_iff_exists (p:=fun j=>decide (j≠i)) (l:=(List.range ops.size).filter fun j=>!b.getD j false)).2 ⟨i,List.mem_filter.2 ⟨zg.2 d,by rw[g];rfl⟩,by simp⟩
  omega
theorem LO{id:Nat}{h:Act}{s:World}(u:P.follows .mixedOrders=true)(d:Array Bool->Array Value->World->Prop)(l:Nat->Value->World->Prop)(r:Nat->World->World->Prop)(q:FK ops=true)(n:H7 h.tmps.size ops=true)
 (p:∀i j v w w',j≠i->(∀f,KT ops f j i=false)->r i w w'->l j v w->l j v w')(h0:d (Array.replicate ops.size false) h.tmps s.drew)
 (g:∀i b a w,Je ops h d l b a w->i∈Region.ready .any ops b->∀o,ops[i]?=some o->wpOp P ops Q i (fun t w'=>∃v,t=a.put o.dst v∧d (b.setIfInBounds i true) (a.put o.dst v).tmps w'∧r i w w'∧l i v w') a w)
 (k:∀b a w,(∀i,i < ops.size->b.getD i false=true)->Je ops h d l b a w->Q .normal a w):(Code.region id ops true).wp P Q h s:=by
 refine wp_region_any u ?_
 have e:∀i,(Array.replicate ops.size false).getD i false=false:=fun i=>by
  simp[Array.getElem?_replicate];split<;>rfl
 refine RN q n p g k ops.size _ h _ (.inr ?_) ⟨by simp,fun m c=>?_,h0,rfl,rfl,fun m c=>?_,fun _ _=>rfl⟩
 ·exact yu (List.length_filter_le _ _) (by simp)
 ·rw[e] at c;cases c
 ·rw[e] at c;cases c
def CN(id:Nat):Code->Option (Array Oper)
 |.region i ops _=>if i=id then some ops else none
 |.seq x y=>(CN id x).or (CN id y)
 |.cond _ x y=>(CN id x).or (CN id y)
 |.block _ x=>CN id x
 |.loop x=>CN id x
 |.rangeFunc _ _ x y=>(CN id x).or (CN id y)
 |.scope x=>CN id x
 |_=>none
def DQ(f:Func)(id:Nat):Option (Array Oper):=f.body.bind (CN id)
def Te(c:Array Value->World->Prop)(e:World->World->Prop)(f:Value->World->Prop)(b:Option Tmp)(a:Act)(w:World)(d:Act)(w':World):Prop:=
 ∃v,d=a.put b v∧c (a.put b v).tmps w'∧e w w'∧f v w'
def N4(ops:Array Oper):Bool:=ops.all fun o=>o.guard.isNone
theorem BO{id:Nat}{h:Act}{r:World}(t:P.follows .mixedOrders=true)(c:Array Bool->Array Value->World->Prop)(g:Nat->Value->World->Prop)(m:Nat->World->World->Prop)(p:FK ops=true)(l:H7 h.tmps.size ops=true)
 (d:N4 ops=true)(n:∀i j v w w',j≠i->(∀f,KT ops f j i=false)->m i w w'->g j v w->g j v w')(h0:c (Array.replicate ops.size false) h.tmps r.drew)
 (e:∀i b a w,Je ops h c g b a w->i∈Region.ready .any ops b->∀o,ops[i]?=some o->o.wp P a w (Te (c (b.setIfInBounds i true)) (m i) (g i) o.dst a w) Q)
 (k:∀b a w,(∀i,i < ops.size->b.getD i false=true)->Je ops h c g b a w->Q .normal a w):(Code.region id ops true).wp P Q h r:=by
 refine LO t c g m p l n h0 (fun i b a w hM hi o q=>?_) k
 unfold wpOp
 rw[q]
 have u:o.guard=none:=by
  unfold N4 at d
  rw[zu] at d
  simpa using d o (zV q)
 have s:Region.wanted o (yielded ops a.tmps)=true:=by simp[Region.wanted,u]
 simp only[s,zD]
 exact .inl (e i b a w hM hi o q)
theorem Je.dep{n:Act}{k:Array Bool->Array Value->World->Prop}{l:Nat->Value->World->Prop}{b:Array Bool}{a:Act}{w:World}(h:Je ops n k l b a w){i:Nat}(hi:i∈Region.ready .any ops b)
 (j:Nat)(t:Tmp)(hb:((ops[i]?).any fun o=>o.after.any fun e=>e.on==j&&Region.binds .any e)=true)(hd:(ops[j]?).bind (·.dst)=some t):l j (a.tmps[t]?.getD undef) w:=by
 rw[<-yE]
 obtain ⟨_,o,p,d⟩:=xx.1 hi
 rw[p,Option.any_some,xV] at hb
 obtain ⟨e,m,c⟩:=hb
 simp only[yG,qr] at c
 obtain ⟨rfl,g⟩:=c
 cases f:ops[e.on]? with
 |none=>rw[f] at hd;cases hd
 |some oj=>
  rw[f,xu] at hd
  exact h.done e.on (d e m g) oj t f hd
theorem Je.came{g:Act}{f:Array Bool->Array Value->World->Prop}{k:Nat->Value->World->Prop}{b:Array Bool}{a:Act}{w:World}(_:Je ops g f k b a w){i:Nat}(hi:i∈Region.ready .any ops b)
 (j:Nat)(hb:((ops[i]?).any fun o=>o.after.any fun e=>e.on==j&&Region.binds .any e)=true):b.getD j false=true:=by
 obtain ⟨_,o,l,d⟩:=xx.1 hi
 rw[l,Option.any_some,xV] at hb
 obtain ⟨e,h,c⟩:=hb
 simp only[yG,qr] at c
 rw[<-c.1]
 exact d e h c.2
theorem Je.not_yet{f:Act}{e:Array Bool->Array Value->World->Prop}{g:Nat->Value->World->Prop}{b:Array Bool}{a:Act}{w:World}(h:Je ops f e g b a w){i:Nat}(hi:i∈Region.ready .any ops b):b.getD i false=false:=by
 obtain ⟨c,o,j,_⟩:=xx.1 hi
 have d:i < b.size:=by rw[h.size];exact (yd.1 j).1
 simp[d] at c ⊢
 exact c
theorem Je.old{p:Act}{l:Array Bool->Array Value->World->Prop}{s:Nat->Value->World->Prop}{b:Array Bool}{a:Act}{w:World}(h:Je ops p l s b a w){i:Nat}(hi:i∈Region.ready .any ops b)
 (k:Tmp)(hb:(ops.all fun o=>o.dst !=some k||o.after.any fun e=>e.on==i&&Region.binds .any e)=true)(v:Value)(q:p.tmps.getD k undef=v):a.tmps[k]?.getD undef=v:=by
 rw[<-yE,<-q]
 refine h.free k fun m t n g hd=>?_
 rw[zu] at hb
 have:=hb n (zV g)
 rw[hd] at this
 simp only[bne_self_eq_false,Bool.false_or,xV] at this
 obtain ⟨e,r,f⟩:=this
 simp only[yG,qr] at f
 have c:=h.down m t n g e r f.2
 rw[f.1] at c
 have d:=(xx.1 hi).1
 have j:=N3 c
 simp[j] at d c
 rw[c] at d;cases d
theorem Gt{a b:Act}(D:List Nat)(hs:a.tmps.size=b.tmps.size)(hd:a.defers=b.defers)(g:∀k,k∉D->a.tmps.getD k undef=b.tmps.getD k undef):
  a={tmps:=D.foldl (fun t k=>t.setIfInBounds k (a.tmps.getD k undef)) b.tmps,defers:=b.defers}:=by
 have f:∀(D:List Nat) (t:Array Value),t.size=a.tmps.size->(∀k,k∉D->a.tmps.getD k undef=t.getD k undef)->a.tmps=D.foldl (fun t k=>t.setIfInBounds k (a.tmps.getD k undef)) t:=by
  intro D
  induction D with
  |nil=>
   intro t c h
   apply Array.ext c.symm
   intro i h1 h2
   have:=h i (by simp)
   simpa[h1,h2] using this
  |cons x r ih=>
   intro t c h
   rw[qm]
   refine ih _ (by simp[c]) fun k l=>?_
   by_cases e:x=k
   ·subst e
    by_cases j:x < t.size
    ·simp[j]
    ·simp[xE (show a.tmps.size<=x by omega)]
   ·rw[h k (by simp[l,xi e])]
    simp[e]
 obtain ⟨t,d⟩:=a
 simp only at hd
 subst hd
 exact yF (fun t=>({tmps:=t,defers:=b.defers}:Act)) (f D b.tmps hs.symm g)
end Go.Proofs.YtjofgpfocadomaaGreatDoor
namespace Go.Proofs.YtjofgpfocadomaaGreatDoor
open Go.RowKit
structure Rt where
 n:Int
 d:Int
def J2:Rt:=⟨0,0⟩
def Dl:Int:=1073741824
def BG(a:Rt):Bool:=decide (1<=a.d)&&(decide (a.d<=Dl)&&(decide (-Dl<=a.n)&&(decide (a.n<=Dl)&&decide (Int.gcd a.n a.d=1))))
def Gz(n d:Int):Rt × Int:=
 if d=0 then (J2,120)
 else if Dl < max ((n.natAbs / Int.gcd n d:Nat):Int) ((d.natAbs / Int.gcd n d:Nat):Int) then (J2,2)
 else (⟨if (decide (n < 0) !=decide (d < 0))=true then -((n.natAbs / Int.gcd n d:Nat):Int) else ((n.natAbs / Int.gcd n d:Nat):Int),((d.natAbs / Int.gcd n d:Nat):Int)⟩,0)
def F3(op:Int)(a b:Rt):Int × Int:=
 if op=3 then (a.n*b.d+b.n*a.d,a.d*b.d) else if op=4 then (a.n*b.d - b.n*a.d,a.d*b.d) else if op=5 then (a.n*b.n,a.d*b.d) else (a.n*b.d,a.d*b.n)
def QO(op:Int)(a b:Rt):Rt × Int:=if (BG a&&BG b)=true then Gz (F3 op a b).1 (F3 op a b).2 else (J2,120)
structure Dm where
 l:Int
 h:Int
 a:Int
deriving DecidableEq
def On:Dm:=⟨0,0,0⟩
def Sy(n:Int):Bool:=decide (-4<=n)&&decide (n<=4)
def GA(d:Dm):Bool:=Sy d.l&&(Sy d.h&&Sy d.a)
def RP(s:Int)(a b:Dm):Dm:=⟨a.l+s*b.l,a.h+s*b.h,a.a+s*b.a⟩
def QP(op:Int)(a b:Dm):Dm × Bool:=
 if op=3∨op=4 then (a,decide (a=b)) else
 let d:=RP (if op=5 then 1 else -1) a b
 if GA d then (d,true) else (On,false)
structure Qn where
 dim:Dm
 v:Rt
 e:Int
def Fq:Qn:=⟨On,J2,0⟩
structure Kn where
 name:ByteArray
 q:Qn
 ok:Bool
def H9(u:Int):Dm:=if u=1∨u=2 then ⟨1,0,0⟩ else if u=3∨u=4 then ⟨0,1,0⟩ else if u=5 then ⟨0,0,1⟩ else On
def G7(u:Int):Int:=if u=2 then 1000 else if u=4 then 24 else 1
def Oo:Int:=1099511627776
def Oq(n u:Int):Qn:=if Dl / G7 u < n then ⟨H9 u,J2,2⟩ else ⟨H9 u,⟨G7 u*n,1⟩,0⟩
def CP(rn:ByteArray)(ri:Int):Bool:=decide (rn.size=0∧ri=0)
def Vs(op:Int)(a b:Qn × Bool):Qn × Bool:=
 if (a.2&&b.2)=true then
  (let d:=QP op a.1.dim b.1.dim
  if d.2=true then
   (if a.1.e≠0 then (⟨d.1,J2,a.1.e⟩,true) else if b.1.e≠0 then (⟨d.1,J2,b.1.e⟩,true) else (⟨d.1,(QO op a.1.v b.1.v).1,(QO op a.1.v b.1.v).2⟩,true))
  else (Fq,false))
 else (Fq,false)
def GB(a:List Kn)(rn:ByteArray)(ri:Int):Qn × Bool:=match a[ri.toNat]? with
 |some k=>if k.name=rn∧0<=ri then (k.q,k.ok) else (Fq,false)
 |none=>(Fq,false)
def Um(op n u:Int)(rn:ByteArray)(ri:Int):Bool:=decide (3<=op)&&(decide (op<=6)&&(decide (n=0)&&(decide (u=0)&&CP rn ri)))
def DY(a:List Kn):Nat->Ex->Qn × Bool
 |left,.mk op n u rn ri args=>
  if op=1 then (if args.length=0∧CP rn ri=true∧0<=n∧n<=Oo∧0<=u∧u<=5 then (Oq n u,true) else (Fq,false))
  else if op=2 then (if args.length=0∧n=0∧u=0 then GB a rn ri else (Fq,false))
  else match left,args with
   |left+1,[x,y]=>if Um op n u rn ri=true then Vs op (DY a left x) (DY a left y) else (Fq,false)
   |_,_=>(Fq,false)
def Ak:List Kn->List (ByteArray × Ex)->List Kn
 |l,[]=>l
 |l,d::r=>Ak (l++[⟨d.1,(DY l 8 d.2).1,(DY l 8 d.2).2⟩]) r
def QQ(a b:Qn × Bool):Prop:=a.2=b.2∧a.1.dim=b.1.dim∧a.1.v=b.1.v∧(a.1.e=0↔b.1.e=0)
theorem QQ.trans{a b c:Qn × Bool}(h:QQ a b)(k:QQ b c):QQ a c:=⟨h.1.trans k.1,h.2.1.trans k.2.1,h.2.2.1.trans k.2.2.1,h.2.2.2.trans k.2.2.2⟩
mutual
def DZ(a:Ex->Ex):Nat->Ex->Ex
 |0,e=>a e
 |left+1,.mk op n u rn ri args=>if args.length=0 then a (.mk op n u rn ri args) else .mk op n u rn ri (N7 a left args)
def N7(a:Ex->Ex):Nat->List Ex->List Ex
 |_,[]=> []
 |left,e::r=>DZ a left e::N7 a left r
end
theorem F4(a:List Kn)(l:Nat)(n u:Int)(rn:ByteArray)(ri:Int)(args:List Ex):DY a l (.mk 1 n u rn ri args)=if args.length=0∧CP rn ri=true∧0<=n∧n<=Oo∧0<=u∧u<=5 then (Oq n u,true) else (Fq,false):=by
 unfold DY
 rfl
theorem IL(a:Ex->Ex)(k:Nat):∀l:List Ex,(N7 a k l).length=l.length
 |[]=>by rw[N7]
 |e::r=>by rw[N7,yx,yx,IL a k r]

def Ef(a b:Nat):List Nat:=
 if a=0 then [] else if _h:b=0 then [a,0] else a::(if a % b=0 then [b] else Ef b (a % b))
 termination_by b
 decreasing_by exact Nat.mod_lt _ (Nat.pos_of_ne_zero (by assumption))
def Ie(d:Nat):List Nat->Nat
 |[]=>d
 |x::r=>Ie x r
theorem Ot{l:List Nat}(h:l≠ [])(d e:Nat):Ie d l=Ie e l:=by
 cases l with
 |nil=>exact absurd rfl h
 |cons x r=>rfl
theorem QR{a b:Nat}(h:a≠0):Ef a b≠ []:=by
 rw[Ef,yt h]
 split<;>simp
theorem Ti:∀(b a:Nat),b≠0->Ie b (Ef a b)=Nat.gcd a b:=by
 intro b
 induction b using Nat.strongRecOn with
 |_ b ih=>
  intro a hb
  rw[Ef]
  by_cases d:a=0
  ·rw[yw d,d,Nat.gcd_zero_left];rfl
  ·rw[yt d,dif_neg hb]
   by_cases c:a % b=0
   ·rw[yw c]
    show b=Nat.gcd a b
    exact (Nat.gcd_eq_right (Nat.dvd_of_mod_eq_zero c)).symm
   ·rw[yt c]
    show Ie a (Ef b (a % b))=Nat.gcd a b
    rw[Ot (QR hb) a (a % b),ih (a % b) (Nat.mod_lt _ (Nat.pos_of_ne_zero hb)) b c,Nat.gcd_comm a b,Nat.gcd_rec b a,Nat.gcd_comm]
theorem DK:∀ {l:List Ex} {e:Ex},e∈l->Ar e+1<=AN l
 |[],_,h=>by simp at h
 |x::r,e,h=>by
  rw[AN]
  rcases yI.1 h with rfl|h
  ·omega
  ·have:=DK h;omega
mutual
def Ha(k:Nat):Ex->Prop
 |.mk op _ _ _ ri args=>(op=2->0<=ri∧ri < (k:Int))∧FA k args
def FA(k:Nat):List Ex->Prop
 |[]=>True
 |e::r=>Ha k e∧FA k r
end
theorem EB(a:List Kn)(l:Nat)(n u:Int)(rn:ByteArray)(ri:Int)(args:List Ex):DY a l (.mk 2 n u rn ri args)=if args.length=0∧n=0∧u=0 then GB a rn ri else (Fq,false):=by
 unfold DY
 rfl
theorem F5(a:List Kn)(l:Nat){op:Int}(h1:op≠1)(h2:op≠2)(n u:Int)(rn:ByteArray)(ri:Int)(x y:Ex):DY a (l+1) (.mk op n u rn ri [x,y])=if Um op n u rn ri=true then Vs op (DY a l x) (DY a l y) else (Fq,false):=by
 conv=>lhs;unfold DY
 rw[yt h1,yt h2]
theorem Cy(a:List Kn)(l:Nat){op:Int}(h1:op≠1)(h2:op≠2)(n u:Int)(rn:ByteArray)(ri:Int)(args:List Ex)(h:l=0∨args.length≠2):DY a l (.mk op n u rn ri args)=(Fq,false):=by
 conv=>lhs;unfold DY
 rw[yt h1,yt h2]
 match l,args,h with
 |0,_,_=>rfl
 |l+1,[],_=>rfl
 |l+1,[x],_=>rfl
 |l+1,[x,y],h=>rcases h with h|h<;>simp at h
 |l+1,x::y::z::r,_=>rfl
theorem Nb(a:List Kn)(k:Nat):∀(l:Nat) (e:Ex),Ha k e->DY (a.take k) l e=DY a l e
 |l,.mk op n u rn ri args,h=>by
  rw[Ha] at h
  by_cases h1:op=1
  ·subst h1;rw[F4,F4]
  ·by_cases h2:op=2
   ·subst h2
    rw[EB,EB]
    have c:=h.1 rfl
    have e:GB (a.take k) rn ri=GB a rn ri:=by
     unfold GB
     rw[zN,yw (by omega)]
    rw[e]
   ·match l,args with
    |0,args=>rw[Cy _ _ h1 h2 _ _ _ _ _ (.inl rfl),Cy _ _ h1 h2 _ _ _ _ _ (.inl rfl)]
    |l+1,[x,y]=>
     have b:=h.2
     rw[FA,FA] at b
     rw[F5 _ _ h1 h2,F5 _ _ h1 h2,Nb a k l x b.1,Nb a k l y b.2.1]
    |l+1,[]=>rw[Cy _ _ h1 h2 _ _ _ _ _ (.inr (by simp)),Cy _ _ h1 h2 _ _ _ _ _ (.inr (by simp))]
    |l+1,[x]=>rw[Cy _ _ h1 h2 _ _ _ _ _ (.inr (by simp)),Cy _ _ h1 h2 _ _ _ _ _ (.inr (by simp))]
    |l+1,x::y::z::r=>rw[Cy _ _ h1 h2 _ _ _ _ _ (.inr (by simp)),Cy _ _ h1 h2 _ _ _ _ _ (.inr (by simp))]
theorem Nc(a:List Kn):∀(l m:Nat) (e:Ex),Ar e<=l->Ar e<=m->DY a l e=DY a m e
 |l,m,.mk op n u rn ri args,hl,hm=>by
  rw[Ar] at hl hm
  by_cases h1:op=1
  ·subst h1;rw[F4,F4]
  ·by_cases h2:op=2
   ·subst h2;rw[EB,EB]
   ·by_cases b:args.length=2
    ·obtain ⟨x,y,rfl⟩:∃x y,args=[x,y]:=by
      match args,b with
      |[x,y],_=>exact ⟨x,y,rfl⟩
     have d:=DK (l:=[x,y]) (e:=x) (by simp)
     have c:=DK (l:=[x,y]) (e:=y) (by simp)
     obtain ⟨l,rfl⟩:∃k,l=k+1:=⟨l - 1,by omega⟩
     obtain ⟨m,rfl⟩:∃k,m=k+1:=⟨m - 1,by omega⟩
     rw[F5 _ _ h1 h2,F5 _ _ h1 h2,Nc a l m x (by omega) (by omega),Nc a l m y (by omega) (by omega)]
    ·rw[Cy _ _ h1 h2 _ _ _ _ _ (.inr b),Cy _ _ h1 h2 _ _ _ _ _ (.inr b)]
theorem Hw:∀(ds:List (ByteArray × Ex)) (l:List Kn),(Ak l ds).length=l.length+ds.length
 |[],l=>by rw[Ak];simp
 |d::r,l=>by rw[Ak,Hw r];simp;omega
theorem Is:∀(ds:List (ByteArray × Ex)) (l:List Kn),(Ak l ds).take l.length=l
 |[],l=>by rw[Ak];simp
 |d::r,l=>by
  rw[Ak]
  have h:=Is r (l++[⟨d.1,(DY l 8 d.2).1,(DY l 8 d.2).2⟩])
  have h2:=yF (List.take l.length) h
  rw[List.take_take,ym,List.take_left] at h2
  rwa [Nat.min_eq_left (by simp)] at h2
theorem Oz:∀(ds:List (ByteArray × Ex)) (l:List Kn) (i:Nat) (d:ByteArray × Ex),ds[i]?=some d->(Ak l ds)[l.length+i]?=some ⟨d.1,(DY ((Ak l ds).take (l.length+i)) 8 d.2).1,(DY ((Ak l ds).take (l.length+i)) 8 d.2).2⟩
 |[],l,i,d,h=>by simp at h
 |c::r,l,0,d,h=>by
  obtain rfl:c=d:=by simpa using h
  rw[xZ,Is]
  rw[Ak]
  have h:=Is r (l++[⟨c.1,(DY l 8 c.2).1,(DY l 8 c.2).2⟩])
  have h2:=yF (fun m=>m[l.length]?) h
  simp only[ym,List.length_singleton] at h2
  rw[zN,yw (by omega)] at h2
  rw[h2];simp
 |c::r,l,i+1,d,h=>by
  rw[Ak]
  have h2:=Oz r (l++[⟨c.1,(DY l 8 c.2).1,(DY l 8 c.2).2⟩]) i d (by simpa using h)
  rw[ym,List.length_singleton] at h2
  rw[show l.length+(i+1)=l.length+1+i by omega]
  exact h2
def G9(lets:List (ByteArray × Ex)):Ex->Ex
 |.mk op n u rn ri args=>if op=2∧n=0∧u=0∧0<=ri then (match lets[ri.toNat]? with
  |some d=>if d.1=rn then d.2 else .mk op n u rn ri args
  |none=>.mk op n u rn ri args) else .mk op n u rn ri args
section
variable{lets:List (ByteArray × Ex)}(hr:∀(i:Nat) d,lets[i]?=some d->Ha i d.2)
include hr
theorem OA{l:Nat}(h:l<=8)(e:Ex)(f:e.args=[])(hd:Ar (G9 lets e)<=l):DY (Ak [] lets) l (G9 lets e)=DY (Ak [] lets) l e:=by
 cases e with
 |mk op n u rn ri args=>
  simp only[Ex.args] at f
  subst f
  simp only[G9] at hd ⊢
  by_cases b:op=2∧n=0∧u=0∧0<=ri
  ·rw[yw b] at hd ⊢
   obtain ⟨rfl,rfl,rfl,h0⟩:=b
   cases c:lets[ri.toNat]? with
   |none=>rfl
   |some d=>
    rw[c] at hd
    simp only at hd ⊢
    by_cases a:d.1=rn
    ·rw[yw a] at hd ⊢
     have g:=Oz lets [] ri.toNat d c
     simp only[yH,yy] at g
     rw[EB,yw ⟨rfl,rfl,rfl⟩]
     unfold GB
     rw[g]
     simp only
     rw[yw ⟨a,h0⟩,Nb _ _ _ _ (hr _ _ c)]
     exact Nc _ _ _ _ hd (by omega)
    ·rw[yt a]
  ·rw[yt b]
theorem L5:∀(l:Nat) (e:Ex),l<=8->Ar e<=l->Ar (DZ (G9 lets) l e)<=l->DY (Ak [] lets) l (DZ (G9 lets) l e)=DY (Ak [] lets) l e
 |0,.mk op n u rn ri args,hl,hd,hg=>by
  rw[DZ] at hg ⊢
  refine OA hr hl _ ?_ hg
  cases args with
  |nil=>rfl
  |cons a r=>rw[Ar,AN] at hd;omega
 |l+1,.mk op n u rn ri args,hl,hd,hg=>by
  rw[DZ] at hg ⊢
  split at hg
  ·rename_i h0
   rw[yw h0]
   exact OA hr hl _ (zl.1 h0) hg
  ·rename_i h0
   rw[yt h0]
   by_cases h1:op=1
   ·subst h1;rw[F4,F4,IL]
   ·by_cases h2:op=2
    ·subst h2;rw[EB,EB,IL]
    ·by_cases b:args.length=2
     ·obtain ⟨x,y,rfl⟩:∃x y,args=[x,y]:=by
       match args,b with
       |[x,y],_=>exact ⟨x,y,rfl⟩
      have g:=DK (l:=[x,y]) (e:=x) (by simp)
      have d:=DK (l:=[x,y]) (e:=y) (by simp)
      rw[Ar] at hd
      rw[Ar] at hg
      simp only[N7] at hg ⊢
      have f:=DK (l:=[DZ (G9 lets) l x,DZ (G9 lets) l y]) (e:=DZ (G9 lets) l x) (by simp)
      have c:=DK (l:=[DZ (G9 lets) l x,DZ (G9 lets) l y]) (e:=DZ (G9 lets) l y) (by simp)
      rw[F5 _ _ h1 h2,F5 _ _ h1 h2,L5 l x (by omega) (by omega) (by omega),L5 l y (by omega) (by omega) (by omega)]
     ·rw[Cy _ _ h1 h2 _ _ _ _ _ (.inr (by rw[IL];exact b)),Cy _ _ h1 h2 _ _ _ _ _ (.inr b)]
end
end Go.Proofs.YtjofgpfocadomaaGreatDoor
namespace Go.Proofs.YtjofgpfocadomaaGreatDoor
open Go
theorem PY{P:Program}{o:Oper}{a:Act}{w:World}{K:Act->World->Prop}{Q:QT}{l n:Nat}(hd:∀c,o.op≠.defer c)(h:Oper.wp P o a w K Q):Oper.wpIn (Fence.wide.inRound l) n P o a w K Q:=by
 refine ⟨fun _ _=>trivial,?_⟩
 rw[Fence.inRound_round,zE l a.eval o hd]
 unfold Oper.wp at h
 generalize (execOp a.eval o).run P w=r at h ⊢
 cases r with
 |ok x w'=>
  cases x with
  |value v=>exact h
  |skip=>exact h
  |defer d=>exact h
  |enter f args=>exact ⟨fun h=>(by cases h),z6.2 h⟩
  |row r args=>exact ⟨fun h=>(by cases h),fun c cs _=>let ⟨v,w2,q,s⟩:=h c cs;⟨v,w2,q,stepsIn_wide.2 s⟩⟩
  |_=>exact h.elim
 |halt x w'=>cases x<;>exact h
def V1(ops:Array Oper):Bool:=ops.all fun o=>match o.op with
 |.defer _=>false
 |_=>true
section
variable{F:Fence}{n:Nat}{P:Program}{ops:Array Oper}{Q:QT}
theorem OG{B:Act}{m:Array Bool->Array Value->World->Prop}{x:Nat->Value->World->Prop}{H:Nat->World->World->Prop}(z:FK ops=true)(C:H7 B.tmps.size ops=true)
 (E:∀i j v w w',j≠i->(∀f,KT ops f j i=false)->H i w w'->x j v w->x j v w')
 (t:∀i b a w,Je ops B m x b a w->i∈Region.ready .any ops b->∀o,ops[i]?=some o->wpOpIn F n P ops Q i (fun G w'=>∃v,G=a.put o.dst v∧m (b.setIfInBounds i true) (a.put o.dst v).tmps w'∧H i w w'∧x i v w') a w)
 (s:∀b a w,(∀i,i < ops.size->b.getD i false=true)->Je ops B m x b a w->Q .normal a w):
  ∀(fuel:Nat) (b:Array Bool) (a:Act) (w:World),(∀i,i < ops.size->b.getD i false=true)∨((List.range ops.size).filter fun i=>!b.getD i false).length<=fuel->Je ops B m x b a w->wpAnyIn F n P .any ops Q fuel b a w:=by
 intro fuel
 induction fuel with
 |zero=>
  intro b a w u hM
  have q:∀i,i < ops.size->b.getD i false=true:=by
   rcases u with u|u
   ·exact u
   ·intro i hi
    have h0:=zl.1 (Nat.le_zero.1 u)
    have:=List.filter_eq_nil_iff.1 h0 i (zg.2 hi)
    simpa using this
  refine ⟨?_,s _ _ _ q hM⟩
  cases hr:Region.ready .any ops b with
  |nil=>rfl
  |cons i r=>
   exfalso
   have hi:i∈Region.ready .any ops b:=by rw[hr];simp
   obtain ⟨c,o,A,_⟩:=xx.1 hi
   have d:=(yd.1 A).1
   have:=q i d
   have k:i < b.size:=by rw[hM.size];exact d
   simp[k] at c this
   rw[this] at c;cases c
 |succ fuel ih=>
  intro b a w u hM
  refine ⟨fun hr=>s _ _ _ (KU z hM.size hr) hM,fun i hi=>?_⟩
  obtain ⟨c,o,A,_⟩:=xx.1 hi
  have d:=(yd.1 A).1
  have k:i < b.size:=by rw[hM.size];exact d
  have g:b.getD i false=false:=by simp[k] at c ⊢;exact c
  refine wpOpIn_mono (fun G w' M=>?_) (t i b a w hM hi o A)
  obtain ⟨v,rfl,K,D,J⟩:=M
  refine ih _ _ _ (.inr ?_) (hM.next z C E hi A K D J)
  have L:=u.resolve_left (fun h=>by rw[h i d] at g;cases g)
  have y:((List.range ops.size).filter fun j=>!(b.setIfInBounds i true).getD j false)=((List.range ops.size).filter fun j=>!b.getD j false).filter fun j=>decide (j≠i):=by
   rw[List.filter_filter]
   refine List.filter_congr fun j _=>?_
   by_cases e:i=j
   ·subst e;simp[k]
   ·rw[xk false e];simp[xi e]
  rw[y]
  have I:=(List.length_filter_lt_length_iff_exists (p:=fun j=>decide (j≠i)) (l:=(List.range ops.size).filter fun j=>!b.getD j false)).2 ⟨i,List.mem_filter.2 ⟨zg.2 d,by rw[g];rfl⟩,by simp⟩
  omega
theorem JZ{id:Nat}{h:Act}{t:World}(x:P.follows .mixedOrders=true)(d:Array Bool->Array Value->World->Prop)(l:Nat->Value->World->Prop)(s:Nat->World->World->Prop)(r:FK ops=true)(p:H7 h.tmps.size ops=true)
 (q:∀i j v w w',j≠i->(∀f,KT ops f j i=false)->s i w w'->l j v w->l j v w')(h0:d (Array.replicate ops.size false) h.tmps t.drew)
 (g:∀i b a w,Je ops h d l b a w->i∈Region.ready .any ops b->∀o,ops[i]?=some o->wpOpIn F n P ops Q i (fun u w'=>∃v,u=a.put o.dst v∧d (b.setIfInBounds i true) (a.put o.dst v).tmps w'∧s i w w'∧l i v w') a w)
 (k:∀b a w,(∀i,i < ops.size->b.getD i false=true)->Je ops h d l b a w->Q .normal a w):(Code.region id ops true).wpIn F n P Q h t:=by
 refine wpIn_region_any x ?_
 have e:∀i,(Array.replicate ops.size false).getD i false=false:=fun i=>by
  simp[Array.getElem?_replicate];split<;>rfl
 refine OG r p q g k ops.size _ h _ (.inr ?_) ⟨by simp,fun m c=>?_,h0,rfl,rfl,fun m c=>?_,fun _ _=>rfl⟩
 ·exact yu (List.length_filter_le _ _) (by simp)
 ·rw[e] at c;cases c
 ·rw[e] at c;cases c
end
section
variable{n:Nat}{P:Program}{ops:Array Oper}{Q:QT}
theorem Ga{id l:Nat}{m:Act}{x:World}(z:P.follows .mixedOrders=true)(d:Array Bool->Array Value->World->Prop)(k:Nat->Value->World->Prop)(s:Nat->World->World->Prop)(u:FK ops=true)(r:H7 m.tmps.size ops=true)
 (g:N4 ops=true)(e:V1 ops=true)(t:∀i j v w w',j≠i->(∀f,KT ops f j i=false)->s i w w'->k j v w->k j v w')(h0:d (Array.replicate ops.size false) m.tmps x.drew)
 (h:∀i b a w,Je ops m d k b a w->i∈Region.ready .any ops b->∀o,ops[i]?=some o->o.wp P a w (Te (d (b.setIfInBounds i true)) (s i) (k i) o.dst a w) Q)
 (p:∀b a w,(∀i,i < ops.size->b.getD i false=true)->Je ops m d k b a w->Q .normal a w):(Code.region id ops true).wpIn (Fence.wide.inRound l) n P Q m x:=by
 refine JZ z d k s u r t h0 (fun i b a w hM hi o q=>?_) p
 unfold wpOpIn
 rw[q]
 have B:o.guard=none:=by
  unfold N4 at g
  rw[zu] at g
  simpa using g o (zV q)
 have y:Region.wanted o (yielded ops a.tmps)=true:=by simp[Region.wanted,B]
 simp only[y,zD]
 refine PY (fun c A=>?_) (h i b a w hM hi o q)
 unfold V1 at e
 rw[zu] at e
 have h2:=e o (zV q)
 rw[A] at h2
 cases h2
end
end Go.Proofs.YtjofgpfocadomaaGreatDoor
namespace Go.Proofs.YtjofgpfocadomaaGreatDoor
open Go.RowKit
section
variable{P:Program}{ops:Array Oper}{rest:List Oper}{o:Oper}{a:Act}{w:World}{Q:QT}
theorem Lg(b:o.guard=none)(ty:TypeId)(x:Operand)(c:o.op=.box ty x)(cs:Array Value)(e:a.eval x=.agg cs)
 (h:wpList P ops Q rest (a.put o.dst (.pointer (some ⟨w.heap.size,0,none⟩))) (w.alloc (.cells cs ty))):wpList P ops Q (o::rest) a w:=
 zx b fun K d=>by
  unfold Oper.wp execOp
  simp only[c,e,Instr.box,newVar,newRow,Value.cells,xt,run_newObj_alloc,Sem.run_pure,xY]
  exact d _ _ h
theorem DE(f:o.guard=none)(t e:TypeId)(x:Operand)(p:o.op=.buildSlice t 1 #[(0,x)])(cs:LV)(m:a.eval x=.agg cs.toArray)
 (n:Nat)(j:P.underlying t=some (.slice e))(hi:((P.info? e).bind fun i=>i.zero.map fun z=>(i.size,z.cells.size))=some (n,n))(l:cs.length=n)(c:0 < n)(d:n<=1000)
 (h:wpList P ops Q rest (a.put o.dst (.slice (some ⟨w.heap.size,0,none⟩) 1 1)) (w.alloc (.cells cs.toArray e))):wpList P ops Q (o::rest) a w:=by
 cases b:P.info? e with
 |none=>simp[b] at hi
 |some ie=>
  cases g:ie.zero with
  |none=>simp[b,g] at hi
  |some z=>
   simp only[b,g,xu,xB,za,zr] at hi
   obtain ⟨h1,h2⟩:=hi
   refine wpList_buildSlice f t e 1 _ p _ ie z j b g (by rw[h1];omega) (by rw[h1];omega) ?_ h
   have hs:((Array.range (1*ie.size)).map (z.cells[· % z.cells.size]!)).size=1*n:=by simp[h1]
   rw[h1] at hs ⊢
   generalize (Array.range (1*n)).map (z.cells[· % z.cells.size]!)=k at hs ⊢
   have:=Great.fill_whole (s:=n) c [.agg cs.toArray] k (by simp[Value.cells,l]) (by rw[hs];rfl)
   simp only[xP,List.zipIdx_nil,zv,zT,yW,zt,yV,Value.cells] at this
   simpa[m] using this
theorem If(f:o.guard=none)(t e:TypeId)(x y:Operand)(r:o.op=.buildSlice t 2 #[(0,x),(1,y)])(c0 c1:LV)(q:a.eval x=.agg c0.toArray)(k:a.eval y=.agg c1.toArray)
 (n:Nat)(l:P.underlying t=some (.slice e))(hi:((P.info? e).bind fun i=>i.zero.map fun z=>(i.size,z.cells.size))=some (n,n))(p:c0.length=n)(j:c1.length=n)(c:0 < n)(d:n<=1000)
 (h:wpList P ops Q rest (a.put o.dst (.slice (some ⟨w.heap.size,0,none⟩) 2 2)) (w.alloc (.cells (c0++c1).toArray e))):wpList P ops Q (o::rest) a w:=by
 cases b:P.info? e with
 |none=>simp[b] at hi
 |some ie=>
  cases g:ie.zero with
  |none=>simp[b,g] at hi
  |some z=>
   simp only[b,g,xu,xB,za,zr] at hi
   obtain ⟨h1,h2⟩:=hi
   refine wpList_buildSlice f t e 2 _ r _ ie z l b g (by rw[h1];omega) (by rw[h1];omega) ?_ h
   have hs:((Array.range (2*ie.size)).map (z.cells[· % z.cells.size]!)).size=2*n:=by simp[h1]
   rw[h1] at hs ⊢
   generalize (Array.range (2*n)).map (z.cells[· % z.cells.size]!)=m at hs ⊢
   have:=Great.fill_whole (s:=n) c [.agg c0.toArray,.agg c1.toArray] m (by simp[Value.cells,p,j]) (by rw[hs];rfl)
   simp only[xP,List.zipIdx_nil,zv,zT,yW,zt,yV,Value.cells] at this
   simpa[q,k] using this
end
theorem LY{v:Value}(a:v.cells=#[v])(ty:TypeId)(p:Addr):storeVar ty p v=storeVar ty p (.agg #[v]):=by
 unfold storeVar
 rw[a]
 rfl
theorem GK{P:Program}{ops:Array Oper}{rest:List Oper}{op:Oper}{a:Act}{w:World}{Q:QT}(c:op.guard=none)(ty:TypeId)(x y:Operand)(j:op.op=.store ty x y)
 (b o:Nat)(v:Value)(i:a.eval x=.pointer (some ⟨b,o,none⟩))(d:a.eval y=v)(e:v.cells=#[v])
 (g:w.there b o 1)(hi:(P.info? ty).map (·.size)=some 1)(h1:v.oneCell'=true)
 (h:wpList P ops Q rest (a.put op.dst undef) (w.setCells b o [v])):wpList P ops Q (op::rest) a w:=
 zx c fun K f=>by
  unfold Oper.wp execOp
  simp only[j,i,d,Instr.storeAt,Instr.sureAddr,xt,Sem.run_pure,xY,LY e,run_storeVar_mid w b o ty #[v] g hi (by simpa using h1)]
  exact f _ _ h
end Go.Proofs.YtjofgpfocadomaaGreatDoor
namespace Go.Proofs.YtjofgpfocadomaaGreatDoor
open Go.RowKit Go.ChangeShapes Go.WideShapes Go.Deep
theorem Rd{α:Type}{P:Nat->α->Prop}:∀n:Nat,(∀i,i < n->∃t,P i t)->∃a:List α,a.length=n∧∀i (h:i < a.length),P i a[i]
 |0,_=>⟨[],rfl,fun i h=>by simp at h⟩
 |n+1,h=>by
  obtain ⟨a,c,f⟩:=Rd n (fun i hi=>h i (by omega))
  obtain ⟨t,d⟩:=h n (by omega)
  refine ⟨a++[t],by simp[c],fun i hi=>?_⟩
  by_cases b:i < a.length
  ·rw[xz b];exact f i b
  ·have e:i=a.length:=by simp at hi;omega
   subst e
   simp only[xy (yf _),Nat.sub_self,List.getElem_cons_zero]
   rw[c];exact d
theorem Eb{H:Type}{P:Program}{e:TypeId}{d:DataW H}{n:Nat}:∀ {l:List (DataW H)},d∈l->n∈d.weights P e->n∈DataW.weightsAll P e l
 |[],h,_=>by simp at h
 |x::r,h,hn=>by
  simp only[DataW.weightsAll,yz]
  rcases yI.1 h with rfl|h
  ·exact .inl hn
  ·exact .inr (Eb h hn)
theorem Re{w:World}{a:Addr}{v:Value}(h:w.cell? a=some v):a.block < w.heap.size:=by
 rcases zU a.block w.heap.size with b|b
 ·exact b
 ·simp[World.cell?,xE b] at h
theorem A7{α:Type}(l:List α)(o n:Nat):l.drop o=(l.drop o).take n++l.drop (o+n):=by
 rw[<-List.drop_drop];exact (zS _ _).symm
theorem Ct:Tryz.prog.cellsOf 9=1:=by kernel_rfl
theorem I0:Tryz.prog.cellsOf 3=1:=by kernel_rfl
theorem Qk:Tryz.prog.cellsOf 4=1:=by kernel_rfl
theorem Bz:Tryz.prog.cellsOf 23=2:=by kernel_rfl
theorem Ec:Tryz.prog.cellsOf 64=12:=by kernel_rfl
theorem Az:Tryz.prog.cellsOf 26=6:=by kernel_rfl
theorem Ns:Tryz.prog.cellsOf 35=26:=by kernel_rfl
theorem M1:Tryz.prog.cellsOf 50=7:=by kernel_rfl
theorem Lw:Tryz.prog.cellsOf 92=7:=by kernel_rfl
theorem K3:Tryz.prog.cellsOf 66=51:=by kernel_rfl
theorem Lx:Tryz.prog.cellsOf 94=12:=by kernel_rfl
theorem Ly:Tryz.prog.cellsOf 158=8:=by kernel_rfl
theorem Lz:Tryz.prog.cellsOf 109=23:=by kernel_rfl
theorem K4:Tryz.prog.cellsOf 131=37:=by kernel_rfl
theorem LA:Tryz.prog.cellsOf 135=11:=by kernel_rfl
theorem I3:Tryz.prog.cellsOf 27=1:=by kernel_rfl
theorem Hg:Tryz.prog.cellsOf 28=1:=by kernel_rfl
theorem GN:Tryz.prog.cellsOf 29=1:=by kernel_rfl
theorem Hh:Tryz.prog.cellsOf 30=1:=by kernel_rfl
theorem Hi:Tryz.prog.cellsOf 107=1:=by kernel_rfl
theorem Hj:Tryz.prog.cellsOf 31=1:=by kernel_rfl
theorem GO:Tryz.prog.cellsOf 32=1:=by kernel_rfl
theorem Hk:Tryz.prog.cellsOf 33=1:=by kernel_rfl
theorem Ql:0 < Tryz.prog.bytesOf 26:=yO (by kernel_rfl)
theorem So:0 < Tryz.prog.bytesOf 50:=yO (by kernel_rfl)
theorem Qm:0 < Tryz.prog.bytesOf 92:=yO (by kernel_rfl)
theorem P9:0 < Tryz.prog.bytesOf 66:=yO (by kernel_rfl)
theorem Qo:0 < Tryz.prog.bytesOf 94:=yO (by kernel_rfl)
theorem Qp:0 < Tryz.prog.bytesOf 158:=yO (by kernel_rfl)
theorem Sp:0 < Tryz.prog.bytesOf 109:=yO (by kernel_rfl)
theorem Pa:0 < Tryz.prog.bytesOf 131:=yO (by kernel_rfl)
theorem Qq:0 < Tryz.prog.bytesOf 135:=yO (by kernel_rfl)
mutual
def Ij:Ex->Prop
 |.mk _ _ _ _ _ args=>args.length*72<=140737488355328∧JR args
def JR:List Ex->Prop
 |[]=>True
 |e::r=>Ij e∧JR r
end
theorem Pb:∀ {l:List Ex},(∀i (h:i < l.length),Ij l[i])->JR l
 |[],_=>by rw[JR];trivial
 |e::r,h=>by
  rw[JR]
  exact ⟨h 0 (by simp),Pb fun i hi=>h (i+1) (by simpa using hi)⟩
theorem MJ:∀ {l:List Ex},JR l->∀i (h:i < l.length),Ij l[i]
 |e::r,h,0,_=>by rw[JR] at h;exact h.1
 |e::r,h,i+1,hi=>by rw[JR] at h;simpa using MJ h.2 i (by simpa using hi)
theorem UO:Tryz.prog.bytesOf 26=72:=by kernel_rfl
section
variable{H:Type}{enc:TypeId × Value->H}{W:World}
def Wt(t:TypeId)(d:DataW H):Prop:=∀k∈d.weights Tryz.prog t,k<=reachBytes
def K5(W:World)(b:Nat):Prop:=b < W.heap.size
theorem Ed{α:Type}{t e:TypeId}{sz:Nat}{Pr:LV->α->Prop}(G:Tryz.prog.underlying t=some (.slice e))(D:Tryz.prog.cellsOf e=sz)(z:0 < Tryz.prog.bytesOf e)(C:0 < sz){fuel:Nat}{x0:Value}{d:DataW H}{ps:List MemPlace}
 (S:∀n,n < fuel->∀cs d ps,DataW.trod enc Tryz.prog W 0 (fun _=>true) true n e cs=some (d,ps)->Wt e d->cs.length=sz->∃x,Pr cs x)
 (h:DataW.trod enc Tryz.prog W 0 (fun _=>true) true fuel t [x0]=some (d,ps))(P:Wt t d):∃(hd:Au) (l:List α),x0=hd.v∧BE (K5 W) W sz Pr hd l∧hd.n<=hd.c∧l.length*Tryz.prog.bytesOf e<=140737488355328:=by
 rcases DataW.trod_slice G h with ⟨o,_⟩|⟨a,len,cap,f,rest,n,V,o,K,hb,O,hm,Q,J,_,_⟩
 ·obtain rfl:x0=.slice none 0 0:=(xb o).1
  exact ⟨⟨none,0,0⟩,[],rfl,⟨rfl,by simp,fun i h=>by simp at h⟩,yf _,by simp⟩
 ·obtain rfl:x0=.slice (some a) len cap:=(xb o).1
  simp only[zr] at K
  have I:(f.length+rest.length)*Tryz.prog.bytesOf e<=140737488355328:=by
   have h1:=P ((f.length+rest.length)*Tryz.prog.bytesOf e) (by
    rw[K.1,DataW.weights,G]
    simp)
   have h2:reachBytes < 2 ^ 47:=reachBytes_lt
   omega
  have m:len*Tryz.prog.bytesOf e<=140737488355328:=yu (xL _ (by omega)) I
  have N:len<=140737488355328:=yu (Nat.le_mul_of_pos_right _ z) m
  have p:∀i,i < len->∃q:LV × α,q.1.length=sz∧(∀j,j < sz->W.cell? ((a.add (i*sz)).add j)=q.1[j]?)∧Pr q.1 q.2:=by
   intro i hi
   have h1:=J i hi
   have h2:f[i]?=some (f[i]'(by omega)):=yk _
   rw[h2,D] at h1
   obtain ⟨cs,hc,B⟩:=Option.bind_eq_some_iff.1 h1
   obtain ⟨_,r,F⟩:=World.cells?_some hc
   obtain ⟨x,E⟩:=S n (by omega) cs _ _ B (fun k U=>P k (by
    rw[K.1,DataW.weights,G]
    exact List.mem_cons_of_mem _ (yz.2 (.inl (Eb (xR.2 ⟨_,yM (by omega),rfl⟩) U))))) r
   exact ⟨(cs,x),r,F,E⟩
  by_cases h0:len=0
  ·subst h0
   exact ⟨⟨some a,0,cap⟩,[],rfl,⟨rfl,by simp,fun i h=>by simp at h⟩,O,by simp⟩
  ·obtain ⟨L,A,E⟩:=Rd len p
   obtain ⟨Z,l0,c0,_⟩:=p 0 (by omega)
   have w:W.cell? a=some (Z.1[0]'(by omega)):=by
    have:=c0 0 C
    rw[yk (by omega)] at this
    simpa[Addr.add] using this
   have g:a.spot=none:=World.cell?_spot w
   have s:a.block < W.heap.size:=Re w
   obtain ⟨b,u,M⟩:=a
   simp only at g s
   subst g
   refine ⟨⟨some (aV b u),len,cap⟩,L.map (·.2),rfl,⟨by simp[A],by simp[A];omega,fun i hi=>?_⟩,O,by rw[yX,A];exact m⟩
   have y:i < L.length:=by simpa using hi
   obtain ⟨T,p2,Y⟩:=E i y
   refine ⟨b,u,(L[i]).1,rfl,s,T,fun j v R=>?_,by simpa using Y⟩
   have X:=(yA.1 R).1
   have:=p2 j (by omega)
   rw[R] at this
   simpa[zB,zR] using this
theorem Pc{a:Option Addr}:∀ {l:List Ex} {k:Nat},(∀i (h:i < l.length),∃b o cs,a=some ⟨b,o,none⟩∧K5 W b∧W.rangeAt b (o+(k+i)*6) cs∧AG (K5 W) W l[i] cs)->D8 (K5 W) W a k l
 |[],_,_=>by rw[D8];trivial
 |e::r,k,h=>by
  rw[D8]
  refine ⟨h 0 (by simp),Pc fun i hi=>?_⟩
  obtain ⟨b,o,cs,h1,h2,h3,c⟩:=h (i+1) (by simpa using hi)
  exact ⟨b,o,cs,h1,h2,by rw[show k+1+i=k+(i+1) by omega];exact h3,by simpa using c⟩
theorem Ee{fuel:Nat}{cs:LV}{d:DataW H}{ps:List MemPlace}(h:DataW.trod enc Tryz.prog W 0 (fun _=>true) true fuel 9 cs=some (d,ps)):∃s:ByteArray,cs=[.string s]∧s.size<=maxLen:=by
 obtain ⟨s,h1,_,h2⟩:=DataW.trod_string j7 h
 exact ⟨s,h1,h2⟩
theorem Fp{fuel:Nat}{cs:LV}{d:DataW H}{ps:List MemPlace}(h:DataW.trod enc Tryz.prog W 0 (fun _=>true) true fuel 3 cs=some (d,ps)):∃z,cs=[.int .i64 z]:=by
 obtain ⟨z,h1,_⟩:=DataW.trod_int qQ h
 exact ⟨z,h1⟩
theorem Sq{fuel:Nat}{cs:LV}{d:DataW H}{ps:List MemPlace}(h:DataW.trod enc Tryz.prog W 0 (fun _=>true) true fuel 4 cs=some (d,ps)):∃z,cs=[.bool z]:=by
 obtain ⟨z,h1,_⟩:=DataW.trod_bool qX h
 exact ⟨z,h1⟩
theorem DG{fuel:Nat}{cs:LV}{d:DataW H}{ps:List MemPlace}(h:DataW.trod enc Tryz.prog W 0 (fun _=>true) true fuel 23 cs=some (d,ps)):∃r:Rf,cs=AU r∧r.name.size<=maxLen:=by
 obtain ⟨i,n,_,j,a,c,b⟩:=zL Tryz.underlying23 h
 rw[Bz] at a
 match cs,a,i,c with
 |[x0,x1],_,[y0,y1],_=>
  have e:=b 0 _ rfl
  have t1:=b 1 _ rfl
  simp only[xT,List.getElem?_cons_succ] at e t1
  obtain ⟨s,f,hs⟩:=Ee e
  obtain ⟨z,g⟩:=Fp t1
  obtain rfl:x0=.string s:=(xb (show [x0]=[_] from f)).1
  obtain rfl:x1=iV z:=(xb (show [x1]=[_] from g)).1
  exact ⟨⟨s,z⟩,rfl,hs⟩
theorem AJ:∀(fuel:Nat) (cs:LV) (d:DataW H) (ps:List MemPlace),DataW.trod enc Tryz.prog W 0 (fun _=>true) true fuel 26 cs=some (d,ps)->Wt 26 d->∃e:Ex,AG (K5 W) W e cs∧Ij e:=by
 intro fuel
 induction fuel using Nat.strongRecOn with
 |ind fuel ih=>
  intro cs d ps h w
  obtain ⟨N,n,J,z,p,x,f⟩:=zL qM h
  rw[Az] at p
  simp only[zr] at z
  match cs,p,N,x with
  |[x0,x1,x2,x3,x4,x5],_,[y0,y1,y2,y3,y4],_=>
   have E:=f 0 _ rfl
   have t1:=f 1 _ rfl
   have t2:=f 2 _ rfl
   have t3:=f 3 _ rfl
   have t4:=f 4 _ rfl
   simp only[xT,List.getElem?_cons_succ] at E t1 t2 t3 t4
   obtain ⟨B,I⟩:=Fp E
   obtain ⟨y,M⟩:=Fp t1
   obtain ⟨D,K⟩:=Fp t2
   obtain ⟨r,u,hr⟩:=DG t3
   obtain rfl:x0=iV B:=(xb (show [x0]=[_] from I)).1
   obtain rfl:x1=iV y:=(xb (show [x1]=[_] from M)).1
   obtain rfl:x2=iV D:=(xb (show [x2]=[_] from K)).1
   have u:[x3,x4]=[Value.string r.name,iV r.n]:=u
   obtain ⟨rfl,G⟩:=xb u
   obtain ⟨rfl,_⟩:=xb G
   obtain ⟨hd,l,L,g,_,q⟩:=Ed (x0:=x5) (Pr:=fun cs e=>AG (K5 W) W e cs∧Ij e) qL Az Ql (by decide) (fun m O cs d ps h w _=>ih m (by omega) cs d ps h w) (show DataW.trod enc Tryz.prog W 0 (fun _=>true) true n 24 [x5]=some (y4.1,y4.2) from t4) (fun k F=>w k (by
    rw[z.1,DataW.weights,qM]
    exact yC (j:=4) (t:=24) (d:=y4.1) rfl rfl _ F))
   subst L
   refine ⟨.mk B y D r.name r.n l,?_,?_⟩
   ·rw[AG]
    refine ⟨hd.a,hd.c,by unfold Au.v;rw[g.1],g.2.1,hr,Pc fun i hi=>?_⟩
    obtain ⟨b,o,cs,g1,A,_,C,s⟩:=g.2.2 i hi
    exact ⟨b,o,cs,g1,A,by rw[yy];exact C,s.1⟩
   ·rw[Ij]
    exact ⟨by rw[UO] at q;exact q,Pb fun i hi=>by
     obtain ⟨b,o,cs,g1,A,_,C,s⟩:=g.2.2 i hi
     exact s.2⟩
theorem Pd{fuel:Nat}{cs:LV}{d:DataW H}{ps:List MemPlace}(h:DataW.trod enc Tryz.prog W 0 (fun _=>true) true fuel 64 cs=some (d,ps))(p:Wt 64 d):∃(e f:Ex) (c q:LV),cs=c++q∧AG (K5 W) W e c∧AG (K5 W) W f q:=by
 obtain ⟨v,n,u,i,a,l,b⟩:=DataW.trod_array j1 h
 simp only[zr] at i
 rw[Ec] at a
 match v,l with
 |[y0,y1],_=>
  have r:DataW.trod enc Tryz.prog W 0 (fun _=>true) true n 26 ((cs.drop (0*Tryz.prog.cellsOf 26)).take (Tryz.prog.cellsOf 26))=some (y0.1,y0.2):=b 0 (by decide)
  have t1:DataW.trod enc Tryz.prog W 0 (fun _=>true) true n 26 ((cs.drop (1*Tryz.prog.cellsOf 26)).take (Tryz.prog.cellsOf 26))=some (y1.1,y1.2):=b 1 (by decide)
  rw[Az] at r t1
  obtain ⟨e,s,_⟩:=AJ n _ _ _ r (fun k j=>p k (by
   rw[i.1,DataW.weights,j1]
   exact Eb (d:=y0.1) (by simp) j))
  obtain ⟨f,t,_⟩:=AJ n _ _ _ t1 (fun k j=>p k (by
   rw[i.1,DataW.weights,j1]
   exact Eb (d:=y1.1) (by simp) j))
  refine ⟨e,f,_,_,?_,s,t⟩
  have o:=A7 cs 0 6
  have m:=A7 cs 6 6
  have g:cs.drop 12=[]:=by rw[<-a];exact zI
  simp only[Nat.reduceAdd,Nat.zero_mul,qA] at o m ⊢
  rw[g,yV] at m
  rw[xf] at o
  rw[<-m]
  rw[xf]
  exact o
theorem TW(fuel:Nat)(cs:LV)(d:DataW H)(ps:List MemPlace)(h:DataW.trod enc Tryz.prog W 0 (fun _=>true) true fuel 50 cs=some (d,ps))(v:Wt 50 d)(e:cs.length=7):∃x:Gh,JS (K5 W) W cs x:=by
 obtain ⟨s,n,z,p,_,b,a⟩:=zL j0 h
 simp only[zr] at p
 have b:s.length=2:=b
 match s,b with
 |[y0,y1],_=>
  have o:DataW.trod enc Tryz.prog W 0 (fun _=>true) true n 9 ((cs.drop 0).take (Tryz.prog.cellsOf 9))=some (y0.1,y0.2):=a 0 _ rfl
  rw[Ct] at o
  have t1:DataW.trod enc Tryz.prog W 0 (fun _=>true) true n 26 ((cs.drop 1).take (Tryz.prog.cellsOf 26))=some (y1.1,y1.2):=a 1 _ rfl
  rw[Az] at t1
  have i:cs=cs.drop 0:=rfl
  have c:=A7 cs 0 1
  obtain ⟨B,g⟩:∃q,q=(cs.drop 0).take 1:=⟨_,rfl⟩
  rw[<-g] at o c
  have m:=A7 cs 1 6
  obtain ⟨r,l⟩:∃q,q=(cs.drop 1).take 6:=⟨_,rfl⟩
  rw[<-l] at t1 m
  have f:cs.drop 7=[]:=by rw[<-e];exact zI
  simp only[Nat.reduceAdd] at c m
  rw[xf] at c
  rw[m] at c
  rw[f] at c
  clear i
  obtain ⟨v0,y,w⟩:=Ee o
  obtain ⟨v1,A,_⟩:=AJ n r _ _ t1 (fun k u=>v k (by
   rw[p.1,DataW.weights,j0]
   exact yC (j:=1) (t:=26) (d:=y1.1) rfl rfl _ u))
  exact ⟨⟨v0,v1⟩,w,r,by rw[c,y];simp,A⟩
theorem Sr(fuel:Nat)(cs:LV)(d:DataW H)(ps:List MemPlace)(h:DataW.trod enc Tryz.prog W 0 (fun _=>true) true fuel 92 cs=some (d,ps))(v:Wt 92 d)(e:cs.length=7):∃x:DN,I6 (K5 W) W cs x:=by
 obtain ⟨s,n,z,p,_,b,a⟩:=zL j8 h
 simp only[zr] at p
 have b:s.length=2:=b
 match s,b with
 |[y0,y1],_=>
  have o:DataW.trod enc Tryz.prog W 0 (fun _=>true) true n 9 ((cs.drop 0).take (Tryz.prog.cellsOf 9))=some (y0.1,y0.2):=a 0 _ rfl
  rw[Ct] at o
  have t1:DataW.trod enc Tryz.prog W 0 (fun _=>true) true n 26 ((cs.drop 1).take (Tryz.prog.cellsOf 26))=some (y1.1,y1.2):=a 1 _ rfl
  rw[Az] at t1
  have i:cs=cs.drop 0:=rfl
  have c:=A7 cs 0 1
  obtain ⟨B,g⟩:∃q,q=(cs.drop 0).take 1:=⟨_,rfl⟩
  rw[<-g] at o c
  have m:=A7 cs 1 6
  obtain ⟨r,l⟩:∃q,q=(cs.drop 1).take 6:=⟨_,rfl⟩
  rw[<-l] at t1 m
  have f:cs.drop 7=[]:=by rw[<-e];exact zI
  simp only[Nat.reduceAdd] at c m
  rw[xf] at c
  rw[m] at c
  rw[f] at c
  clear i
  obtain ⟨v0,y,w⟩:=Ee o
  obtain ⟨v1,A,_⟩:=AJ n r _ _ t1 (fun k u=>v k (by
   rw[p.1,DataW.weights,j8]
   exact yC (j:=1) (t:=26) (d:=y1.1) rfl rfl _ u))
  exact ⟨⟨v0,v1⟩,w,r,by rw[c,y];simp,A⟩
theorem Qr(fuel:Nat)(cs:LV)(d:DataW H)(ps:List MemPlace)(h:DataW.trod enc Tryz.prog W 0 (fun _=>true) true fuel 66 cs=some (d,ps))(g:Wt 66 d)(i:cs.length=51):∃x:AA,F8 (K5 W) W cs x:=by
 obtain ⟨L,n,Q,f,_,e,a⟩:=zL j2 h
 simp only[zr] at f
 have e:L.length=8:=e
 match L,e with
 |[y0,y1,y2,y3,y4,y5,y6,y7],_=>
  have u:DataW.trod enc Tryz.prog W 0 (fun _=>true) true n 9 ((cs.drop 0).take (Tryz.prog.cellsOf 9))=some (y0.1,y0.2):=a 0 _ rfl
  rw[Ct] at u
  have t1:DataW.trod enc Tryz.prog W 0 (fun _=>true) true n 23 ((cs.drop 1).take (Tryz.prog.cellsOf 23))=some (y1.1,y1.2):=a 1 _ rfl
  rw[Bz] at t1
  have t2:DataW.trod enc Tryz.prog W 0 (fun _=>true) true n 26 ((cs.drop 3).take (Tryz.prog.cellsOf 26))=some (y2.1,y2.2):=a 2 _ rfl
  rw[Az] at t2
  have t3:DataW.trod enc Tryz.prog W 0 (fun _=>true) true n 26 ((cs.drop 9).take (Tryz.prog.cellsOf 26))=some (y3.1,y3.2):=a 3 _ rfl
  rw[Az] at t3
  have t4:DataW.trod enc Tryz.prog W 0 (fun _=>true) true n 26 ((cs.drop 15).take (Tryz.prog.cellsOf 26))=some (y4.1,y4.2):=a 4 _ rfl
  rw[Az] at t4
  have t5:DataW.trod enc Tryz.prog W 0 (fun _=>true) true n 26 ((cs.drop 21).take (Tryz.prog.cellsOf 26))=some (y5.1,y5.2):=a 5 _ rfl
  rw[Az] at t5
  have t6:DataW.trod enc Tryz.prog W 0 (fun _=>true) true n 64 ((cs.drop 27).take (Tryz.prog.cellsOf 64))=some (y6.1,y6.2):=a 6 _ rfl
  rw[Ec] at t6
  have t7:DataW.trod enc Tryz.prog W 0 (fun _=>true) true n 64 ((cs.drop 39).take (Tryz.prog.cellsOf 64))=some (y7.1,y7.2):=a 7 _ rfl
  rw[Ec] at t7
  have p:cs=cs.drop 0:=rfl
  have b:=A7 cs 0 1
  obtain ⟨q0,D⟩:∃q,q=(cs.drop 0).take 1:=⟨_,rfl⟩
  rw[<-D] at u b
  have A:=A7 cs 1 2
  obtain ⟨q1,r⟩:∃q,q=(cs.drop 1).take 2:=⟨_,rfl⟩
  rw[<-r] at t1 A
  have E:=A7 cs 3 6
  obtain ⟨M,G⟩:∃q,q=(cs.drop 3).take 6:=⟨_,rfl⟩
  rw[<-G] at t2 E
  have z:=A7 cs 9 6
  obtain ⟨I,s⟩:∃q,q=(cs.drop 9).take 6:=⟨_,rfl⟩
  rw[<-s] at t3 z
  have v:=A7 cs 15 6
  obtain ⟨J,w⟩:∃q,q=(cs.drop 15).take 6:=⟨_,rfl⟩
  rw[<-w] at t4 v
  have B:=A7 cs 21 6
  obtain ⟨K,C⟩:∃q,q=(cs.drop 21).take 6:=⟨_,rfl⟩
  rw[<-C] at t5 B
  have F:=A7 cs 27 12
  obtain ⟨q6,y⟩:∃q,q=(cs.drop 27).take 12:=⟨_,rfl⟩
  rw[<-y] at t6 F
  have o:=A7 cs 39 12
  obtain ⟨q7,m⟩:∃q,q=(cs.drop 39).take 12:=⟨_,rfl⟩
  rw[<-m] at t7 o
  have l:cs.drop 51=[]:=by rw[<-i];exact zI
  simp only[Nat.reduceAdd] at b A E z v B F o
  rw[xf] at b
  rw[A] at b
  rw[E] at b
  rw[z] at b
  rw[v] at b
  rw[B] at b
  rw[F] at b
  rw[o] at b
  rw[l] at b
  clear p
  obtain ⟨v0,Z,P⟩:=Ee u
  obtain ⟨v1,U,z1⟩:=DG t1
  obtain ⟨v2,R,_⟩:=AJ n M _ _ t2 (fun k c=>g k (by
   rw[f.1,DataW.weights,j2]
   exact yC (j:=2) (t:=26) (d:=y2.1) rfl rfl _ c))
  obtain ⟨v3,N,_⟩:=AJ n I _ _ t3 (fun k c=>g k (by
   rw[f.1,DataW.weights,j2]
   exact yC (j:=3) (t:=26) (d:=y3.1) rfl rfl _ c))
  obtain ⟨v4,O,_⟩:=AJ n J _ _ t4 (fun k c=>g k (by
   rw[f.1,DataW.weights,j2]
   exact yC (j:=4) (t:=26) (d:=y4.1) rfl rfl _ c))
  obtain ⟨v5,S,_⟩:=AJ n K _ _ t5 (fun k c=>g k (by
   rw[f.1,DataW.weights,j2]
   exact yC (j:=5) (t:=26) (d:=y5.1) rfl rfl _ c))
  obtain ⟨v6,u6,c6,r6,Y,V,h6⟩:=Pd t6 (fun k c=>g k (by
   rw[f.1,DataW.weights,j2]
   exact yC (j:=6) (t:=64) (d:=y6.1) rfl rfl _ c))
  obtain ⟨v7,T,c7,X,e7,g7,h7⟩:=Pd t7 (fun k c=>g k (by
   rw[f.1,DataW.weights,j2]
   exact yC (j:=7) (t:=64) (d:=y7.1) rfl rfl _ c))
  exact ⟨⟨v0,v1,v2,v3,v4,v5,v6,u6,v7,T⟩,P,z1,M,I,J,K,c6,r6,c7,X,by rw[b,Z,U,Y,e7];simp,R,N,O,S,V,h6,g7,h7⟩
theorem Ss(fuel:Nat)(cs:LV)(d:DataW H)(ps:List MemPlace)(h:DataW.trod enc Tryz.prog W 0 (fun _=>true) true fuel 94 cs=some (d,ps))(E:Wt 94 d)(e:cs.length=12):∃x:CE,I7 (K5 W) W cs x:=by
 obtain ⟨A,n,J,y,_,c,a⟩:=zL j9 h
 simp only[zr] at y
 have c:A.length=5:=c
 match A,c with
 |[y0,y1,y2,y3,y4],_=>
  have w:DataW.trod enc Tryz.prog W 0 (fun _=>true) true n 9 ((cs.drop 0).take (Tryz.prog.cellsOf 9))=some (y0.1,y0.2):=a 0 _ rfl
  rw[Ct] at w
  have t1:DataW.trod enc Tryz.prog W 0 (fun _=>true) true n 23 ((cs.drop 1).take (Tryz.prog.cellsOf 23))=some (y1.1,y1.2):=a 1 _ rfl
  rw[Bz] at t1
  have t2:DataW.trod enc Tryz.prog W 0 (fun _=>true) true n 4 ((cs.drop 3).take (Tryz.prog.cellsOf 4))=some (y2.1,y2.2):=a 2 _ rfl
  rw[Qk] at t2
  have t3:DataW.trod enc Tryz.prog W 0 (fun _=>true) true n 26 ((cs.drop 4).take (Tryz.prog.cellsOf 26))=some (y3.1,y3.2):=a 3 _ rfl
  rw[Az] at t3
  have t4:DataW.trod enc Tryz.prog W 0 (fun _=>true) true n 23 ((cs.drop 10).take (Tryz.prog.cellsOf 23))=some (y4.1,y4.2):=a 4 _ rfl
  rw[Bz] at t4
  have p:cs=cs.drop 0:=rfl
  have b:=A7 cs 0 1
  obtain ⟨Q,l⟩:∃q,q=(cs.drop 0).take 1:=⟨_,rfl⟩
  rw[<-l] at w b
  have s:=A7 cs 1 2
  obtain ⟨P,r⟩:∃q,q=(cs.drop 1).take 2:=⟨_,rfl⟩
  rw[<-r] at t1 s
  have m:=A7 cs 3 1
  obtain ⟨O,v⟩:∃q,q=(cs.drop 3).take 1:=⟨_,rfl⟩
  rw[<-v] at t2 m
  have o:=A7 cs 4 6
  obtain ⟨z,u⟩:∃q,q=(cs.drop 4).take 6:=⟨_,rfl⟩
  rw[<-u] at t3 o
  have g:=A7 cs 10 2
  obtain ⟨N,i⟩:∃q,q=(cs.drop 10).take 2:=⟨_,rfl⟩
  rw[<-i] at t4 g
  have f:cs.drop 12=[]:=by rw[<-e];exact zI
  simp only[Nat.reduceAdd] at b s m o g
  rw[xf] at b
  rw[s] at b
  rw[m] at b
  rw[o] at b
  rw[g] at b
  rw[f] at b
  clear p
  obtain ⟨v0,I,G⟩:=Ee w
  obtain ⟨v1,M,B⟩:=DG t1
  obtain ⟨L,K⟩:=Sq t2
  obtain ⟨v3,C,_⟩:=AJ n z _ _ t3 (fun k D=>E k (by
   rw[y.1,DataW.weights,j9]
   exact yC (j:=3) (t:=26) (d:=y3.1) rfl rfl _ D))
  obtain ⟨v4,F,z4⟩:=DG t4
  exact ⟨⟨v0,v1,L,v3,v4⟩,G,B,z4,z,by rw[b,I,M,K,F];simp,C⟩
theorem St(fuel:Nat)(cs:LV)(d:DataW H)(ps:List MemPlace)(h:DataW.trod enc Tryz.prog W 0 (fun _=>true) true fuel 158 cs=some (d,ps))(v:Wt 158 d)(e:cs.length=8):∃x:Cb,Ft (K5 W) W cs x:=by
 obtain ⟨s,n,z,p,_,b,a⟩:=zL qI h
 simp only[zr] at p
 have b:s.length=2:=b
 match s,b with
 |[y0,y1],_=>
  have o:DataW.trod enc Tryz.prog W 0 (fun _=>true) true n 23 ((cs.drop 0).take (Tryz.prog.cellsOf 23))=some (y0.1,y0.2):=a 0 _ rfl
  rw[Bz] at o
  have t1:DataW.trod enc Tryz.prog W 0 (fun _=>true) true n 26 ((cs.drop 2).take (Tryz.prog.cellsOf 26))=some (y1.1,y1.2):=a 1 _ rfl
  rw[Az] at t1
  have i:cs=cs.drop 0:=rfl
  have c:=A7 cs 0 2
  obtain ⟨B,g⟩:∃q,q=(cs.drop 0).take 2:=⟨_,rfl⟩
  rw[<-g] at o c
  have m:=A7 cs 2 6
  obtain ⟨r,l⟩:∃q,q=(cs.drop 2).take 6:=⟨_,rfl⟩
  rw[<-l] at t1 m
  have f:cs.drop 8=[]:=by rw[<-e];exact zI
  simp only[Nat.reduceAdd] at c m
  rw[xf] at c
  rw[m] at c
  rw[f] at c
  clear i
  obtain ⟨v0,y,w⟩:=DG o
  obtain ⟨v1,A,_⟩:=AJ n r _ _ t1 (fun k u=>v k (by
   rw[p.1,DataW.weights,qI]
   exact yC (j:=1) (t:=26) (d:=y1.1) rfl rfl _ u))
  exact ⟨⟨v0,v1⟩,w,r,by rw[c,y];simp,A⟩
theorem TX(fuel:Nat)(cs:LV)(d:DataW H)(ps:List MemPlace)(h:DataW.trod enc Tryz.prog W 0 (fun _=>true) true fuel 109 cs=some (d,ps))(i:Wt 109 d)(c:cs.length=23):∃x:Br × Au,GW (K5 W) W x.2 cs x.1:=by
 obtain ⟨O,n,X,l,_,f,a⟩:=zL qE h
 simp only[zr] at l
 have f:O.length=7:=f
 match O,f with
 |[y0,y1,y2,y3,y4,y5,y6],_=>
  have B:DataW.trod enc Tryz.prog W 0 (fun _=>true) true n 9 ((cs.drop 0).take (Tryz.prog.cellsOf 9))=some (y0.1,y0.2):=a 0 _ rfl
  rw[Ct] at B
  have t1:DataW.trod enc Tryz.prog W 0 (fun _=>true) true n 23 ((cs.drop 1).take (Tryz.prog.cellsOf 23))=some (y1.1,y1.2):=a 1 _ rfl
  rw[Bz] at t1
  have t2:DataW.trod enc Tryz.prog W 0 (fun _=>true) true n 3 ((cs.drop 3).take (Tryz.prog.cellsOf 3))=some (y2.1,y2.2):=a 2 _ rfl
  rw[I0] at t2
  have t3:DataW.trod enc Tryz.prog W 0 (fun _=>true) true n 26 ((cs.drop 4).take (Tryz.prog.cellsOf 26))=some (y3.1,y3.2):=a 3 _ rfl
  rw[Az] at t3
  have t4:DataW.trod enc Tryz.prog W 0 (fun _=>true) true n 26 ((cs.drop 10).take (Tryz.prog.cellsOf 26))=some (y4.1,y4.2):=a 4 _ rfl
  rw[Az] at t4
  have t5:DataW.trod enc Tryz.prog W 0 (fun _=>true) true n 26 ((cs.drop 16).take (Tryz.prog.cellsOf 26))=some (y5.1,y5.2):=a 5 _ rfl
  rw[Az] at t5
  have t6:DataW.trod enc Tryz.prog W 0 (fun _=>true) true n 107 ((cs.drop 22).take (Tryz.prog.cellsOf 107))=some (y6.1,y6.2):=a 6 _ rfl
  rw[Hi] at t6
  have C:cs=cs.drop 0:=rfl
  have b:=A7 cs 0 1
  obtain ⟨q0,w⟩:∃q,q=(cs.drop 0).take 1:=⟨_,rfl⟩
  rw[<-w] at B b
  have F:=A7 cs 1 2
  obtain ⟨q1,E⟩:∃q,q=(cs.drop 1).take 2:=⟨_,rfl⟩
  rw[<-E] at t1 F
  have y:=A7 cs 3 1
  obtain ⟨q2,I⟩:∃q,q=(cs.drop 3).take 1:=⟨_,rfl⟩
  rw[<-I] at t2 y
  have A:=A7 cs 4 6
  obtain ⟨L,G⟩:∃q,q=(cs.drop 4).take 6:=⟨_,rfl⟩
  rw[<-G] at t3 A
  have s:=A7 cs 10 6
  obtain ⟨K,u⟩:∃q,q=(cs.drop 10).take 6:=⟨_,rfl⟩
  rw[<-u] at t4 s
  have J:=A7 cs 16 6
  obtain ⟨M,r⟩:∃q,q=(cs.drop 16).take 6:=⟨_,rfl⟩
  rw[<-r] at t5 J
  have z:=A7 cs 22 1
  obtain ⟨R,o⟩:∃q,q=(cs.drop 22).take 1:=⟨_,rfl⟩
  rw[<-o] at t6 z
  have p:cs.drop 23=[]:=by rw[<-c];exact zI
  simp only[Nat.reduceAdd] at b F y A s J z
  rw[xf] at b
  rw[F] at b
  rw[y] at b
  rw[A] at b
  rw[s] at b
  rw[J] at b
  rw[z] at b
  rw[p] at b
  clear C
  obtain ⟨v0,Y,V⟩:=Ee B
  obtain ⟨v1,e1,P⟩:=DG t1
  obtain ⟨v2,Z⟩:=Fp t2
  obtain ⟨v3,Q,_⟩:=AJ n L _ _ t3 (fun k e=>i k (by
   rw[l.1,DataW.weights,qE]
   exact yC (j:=3) (t:=26) (d:=y3.1) rfl rfl _ e))
  obtain ⟨v4,U,_⟩:=AJ n K _ _ t4 (fun k e=>i k (by
   rw[l.1,DataW.weights,qE]
   exact yC (j:=4) (t:=26) (d:=y4.1) rfl rfl _ e))
  obtain ⟨v5,e5,_⟩:=AJ n M _ _ t5 (fun k e=>i k (by
   rw[l.1,DataW.weights,qE]
   exact yC (j:=5) (t:=26) (d:=y5.1) rfl rfl _ e))
  obtain ⟨a0,g⟩:∃v,R=[v]:=zO.1 (by rw[o,zc,xw,c];rfl)
  rw[g] at t6
  obtain ⟨D,l6,T,Ce,N,_⟩:=Ed (Pr:=fun cs x=>Ft (K5 W) W cs x) qD Ly Qp (by decide) (fun m _ cs d ps h i S=>St m cs d ps h i S) t6 (fun k e=>i k (by
   rw[l.1,DataW.weights,qE]
   exact yC (j:=6) (t:=107) (d:=y6.1) rfl rfl _ e))
  rw[T] at g
  exact ⟨(⟨v0,v1,v2,v3,v4,v5,l6⟩,D),V,P,L,K,M,by rw[b,Y,e1,Z,g];simp,Q,U,e5,Ce⟩
theorem Qs(fuel:Nat)(cs:LV)(d:DataW H)(ps:List MemPlace)(h:DataW.trod enc Tryz.prog W 0 (fun _=>true) true fuel 131 cs=some (d,ps))(i:Wt 131 d)(g:cs.length=37):∃x:AW,F9 (K5 W) W cs x:=by
 obtain ⟨R,n,X,f,_,e,a⟩:=zL qF h
 simp only[zr] at f
 have e:R.length=10:=e
 match R,e with
 |[y0,y1,y2,y3,y4,y5,y6,y7,y8,y9],_=>
  have v:DataW.trod enc Tryz.prog W 0 (fun _=>true) true n 3 ((cs.drop 0).take (Tryz.prog.cellsOf 3))=some (y0.1,y0.2):=a 0 _ rfl
  rw[I0] at v
  have t1:DataW.trod enc Tryz.prog W 0 (fun _=>true) true n 9 ((cs.drop 1).take (Tryz.prog.cellsOf 9))=some (y1.1,y1.2):=a 1 _ rfl
  rw[Ct] at t1
  have t2:DataW.trod enc Tryz.prog W 0 (fun _=>true) true n 23 ((cs.drop 2).take (Tryz.prog.cellsOf 23))=some (y2.1,y2.2):=a 2 _ rfl
  rw[Bz] at t2
  have t3:DataW.trod enc Tryz.prog W 0 (fun _=>true) true n 23 ((cs.drop 4).take (Tryz.prog.cellsOf 23))=some (y3.1,y3.2):=a 3 _ rfl
  rw[Bz] at t3
  have t4:DataW.trod enc Tryz.prog W 0 (fun _=>true) true n 3 ((cs.drop 6).take (Tryz.prog.cellsOf 3))=some (y4.1,y4.2):=a 4 _ rfl
  rw[I0] at t4
  have t5:DataW.trod enc Tryz.prog W 0 (fun _=>true) true n 26 ((cs.drop 7).take (Tryz.prog.cellsOf 26))=some (y5.1,y5.2):=a 5 _ rfl
  rw[Az] at t5
  have t6:DataW.trod enc Tryz.prog W 0 (fun _=>true) true n 26 ((cs.drop 13).take (Tryz.prog.cellsOf 26))=some (y6.1,y6.2):=a 6 _ rfl
  rw[Az] at t6
  have t7:DataW.trod enc Tryz.prog W 0 (fun _=>true) true n 26 ((cs.drop 19).take (Tryz.prog.cellsOf 26))=some (y7.1,y7.2):=a 7 _ rfl
  rw[Az] at t7
  have L:DataW.trod enc Tryz.prog W 0 (fun _=>true) true n 26 ((cs.drop 25).take (Tryz.prog.cellsOf 26))=some (y8.1,y8.2):=a 8 _ rfl
  rw[Az] at L
  have t9:DataW.trod enc Tryz.prog W 0 (fun _=>true) true n 26 ((cs.drop 31).take (Tryz.prog.cellsOf 26))=some (y9.1,y9.2):=a 9 _ rfl
  rw[Az] at t9
  have r:cs=cs.drop 0:=rfl
  have b:=A7 cs 0 1
  obtain ⟨q0,F⟩:∃q,q=(cs.drop 0).take 1:=⟨_,rfl⟩
  rw[<-F] at v b
  have C:=A7 cs 1 1
  obtain ⟨q1,s⟩:∃q,q=(cs.drop 1).take 1:=⟨_,rfl⟩
  rw[<-s] at t1 C
  have G:=A7 cs 2 2
  obtain ⟨q2,M⟩:∃q,q=(cs.drop 2).take 2:=⟨_,rfl⟩
  rw[<-M] at t2 G
  have B:=A7 cs 4 2
  obtain ⟨q3,u⟩:∃q,q=(cs.drop 4).take 2:=⟨_,rfl⟩
  rw[<-u] at t3 B
  have w:=A7 cs 6 1
  obtain ⟨q4,y⟩:∃q,q=(cs.drop 6).take 1:=⟨_,rfl⟩
  rw[<-y] at t4 w
  have D:=A7 cs 7 6
  obtain ⟨P,E⟩:∃q,q=(cs.drop 7).take 6:=⟨_,rfl⟩
  rw[<-E] at t5 D
  have I:=A7 cs 13 6
  obtain ⟨S,A⟩:∃q,q=(cs.drop 13).take 6:=⟨_,rfl⟩
  rw[<-A] at t6 I
  have p:=A7 cs 19 6
  obtain ⟨N,o⟩:∃q,q=(cs.drop 19).take 6:=⟨_,rfl⟩
  rw[<-o] at t7 p
  have m:=A7 cs 25 6
  obtain ⟨Q,J⟩:∃q,q=(cs.drop 25).take 6:=⟨_,rfl⟩
  rw[<-J] at L m
  have K:=A7 cs 31 6
  obtain ⟨O,z⟩:∃q,q=(cs.drop 31).take 6:=⟨_,rfl⟩
  rw[<-z] at t9 K
  have l:cs.drop 37=[]:=by rw[<-g];exact zI
  simp only[Nat.reduceAdd] at b C G B w D I p m K
  rw[xf] at b
  rw[C] at b
  rw[G] at b
  rw[B] at b
  rw[w] at b
  rw[D] at b
  rw[I] at b
  rw[p] at b
  rw[m] at b
  rw[K] at b
  rw[l] at b
  clear r
  obtain ⟨v0,e0⟩:=Fp v
  obtain ⟨v1,e1,z1⟩:=Ee t1
  obtain ⟨v2,Y,z2⟩:=DG t2
  obtain ⟨v3,U,z3⟩:=DG t3
  obtain ⟨v4,V⟩:=Fp t4
  obtain ⟨v5,Z,_⟩:=AJ n P _ _ t5 (fun k c=>i k (by
   rw[f.1,DataW.weights,qF]
   exact yC (j:=5) (t:=26) (d:=y5.1) rfl rfl _ c))
  obtain ⟨v6,e6,_⟩:=AJ n S _ _ t6 (fun k c=>i k (by
   rw[f.1,DataW.weights,qF]
   exact yC (j:=6) (t:=26) (d:=y6.1) rfl rfl _ c))
  obtain ⟨v7,e7,_⟩:=AJ n N _ _ t7 (fun k c=>i k (by
   rw[f.1,DataW.weights,qF]
   exact yC (j:=7) (t:=26) (d:=y7.1) rfl rfl _ c))
  obtain ⟨v8,e8,_⟩:=AJ n Q _ _ L (fun k c=>i k (by
   rw[f.1,DataW.weights,qF]
   exact yC (j:=8) (t:=26) (d:=y8.1) rfl rfl _ c))
  obtain ⟨v9,T,_⟩:=AJ n O _ _ t9 (fun k c=>i k (by
   rw[f.1,DataW.weights,qF]
   exact yC (j:=9) (t:=26) (d:=y9.1) rfl rfl _ c))
  exact ⟨⟨v0,v1,v2,v3,v4,v5,v6,v7,v8,v9⟩,z1,z2,z3,P,S,N,Q,O,by rw[b,e0,e1,Y,U,V];simp,Z,e6,e7,e8,T⟩
theorem Su(fuel:Nat)(cs:LV)(d:DataW H)(ps:List MemPlace)(h:DataW.trod enc Tryz.prog W 0 (fun _=>true) true fuel 135 cs=some (d,ps))(C:Wt 135 d)(e:cs.length=11):∃x:CU,I8 (K5 W) W cs x:=by
 obtain ⟨y,n,F,v,_,c,a⟩:=zL qG h
 simp only[zr] at v
 have c:y.length=4:=c
 match y,c with
 |[y0,y1,y2,y3],_=>
  have u:DataW.trod enc Tryz.prog W 0 (fun _=>true) true n 9 ((cs.drop 0).take (Tryz.prog.cellsOf 9))=some (y0.1,y0.2):=a 0 _ rfl
  rw[Ct] at u
  have t1:DataW.trod enc Tryz.prog W 0 (fun _=>true) true n 23 ((cs.drop 1).take (Tryz.prog.cellsOf 23))=some (y1.1,y1.2):=a 1 _ rfl
  rw[Bz] at t1
  have t2:DataW.trod enc Tryz.prog W 0 (fun _=>true) true n 23 ((cs.drop 3).take (Tryz.prog.cellsOf 23))=some (y2.1,y2.2):=a 2 _ rfl
  rw[Bz] at t2
  have t3:DataW.trod enc Tryz.prog W 0 (fun _=>true) true n 26 ((cs.drop 5).take (Tryz.prog.cellsOf 26))=some (y3.1,y3.2):=a 3 _ rfl
  rw[Az] at t3
  have m:cs=cs.drop 0:=rfl
  have b:=A7 cs 0 1
  obtain ⟨N,g⟩:∃q,q=(cs.drop 0).take 1:=⟨_,rfl⟩
  rw[<-g] at u b
  have p:=A7 cs 1 2
  obtain ⟨M,o⟩:∃q,q=(cs.drop 1).take 2:=⟨_,rfl⟩
  rw[<-o] at t1 p
  have i:=A7 cs 3 2
  obtain ⟨L,s⟩:∃q,q=(cs.drop 3).take 2:=⟨_,rfl⟩
  rw[<-s] at t2 i
  have l:=A7 cs 5 6
  obtain ⟨w,r⟩:∃q,q=(cs.drop 5).take 6:=⟨_,rfl⟩
  rw[<-r] at t3 l
  have f:cs.drop 11=[]:=by rw[<-e];exact zI
  simp only[Nat.reduceAdd] at b p i l
  rw[xf] at b
  rw[p] at b
  rw[i] at b
  rw[l] at b
  rw[f] at b
  clear m
  obtain ⟨v0,E,D⟩:=Ee u
  obtain ⟨v1,J,z⟩:=DG t1
  obtain ⟨I,G,K⟩:=DG t2
  obtain ⟨v3,A,_⟩:=AJ n w _ _ t3 (fun k B=>C k (by
   rw[v.1,DataW.weights,qG]
   exact yC (j:=3) (t:=26) (d:=y3.1) rfl rfl _ B))
  exact ⟨⟨v0,v1,I,v3⟩,D,z,K,w,by rw[b,E,J,G];simp,A⟩
theorem Pe{fuel:Nat}{cs:LV}{d:DataW H}{ps:List MemPlace}(h:DataW.trod enc Tryz.prog W 0 (fun _=>true) true fuel 35 cs=some (d,ps))(g:Wt 35 d)(f:cs.length=26):∃(L:Bt) (x:Av),BH (K5 W) W L cs x∧L.duties.n<=L.duties.c∧L.rights.n<=L.rights.c:=by
 obtain ⟨ys,n,aq,u,_,B,a⟩:=zL qV h
 simp only[zr] at u
 have B:ys.length=11:=B
 match ys,B with
 |[y0,y1,y2,y3,y4,y5,y6,y7,y8,y9,y10],_=>
  have t0:DataW.trod enc Tryz.prog W 0 (fun _=>true) true n 9 ((cs.drop 0).take (Tryz.prog.cellsOf 9))=some (y0.1,y0.2):=a 0 _ rfl
  rw[Ct] at t0
  have t1:DataW.trod enc Tryz.prog W 0 (fun _=>true) true n 26 ((cs.drop 1).take (Tryz.prog.cellsOf 26))=some (y1.1,y1.2):=a 1 _ rfl
  rw[Az] at t1
  have t2:DataW.trod enc Tryz.prog W 0 (fun _=>true) true n 26 ((cs.drop 7).take (Tryz.prog.cellsOf 26))=some (y2.1,y2.2):=a 2 _ rfl
  rw[Az] at t2
  have t3:DataW.trod enc Tryz.prog W 0 (fun _=>true) true n 26 ((cs.drop 13).take (Tryz.prog.cellsOf 26))=some (y3.1,y3.2):=a 3 _ rfl
  rw[Az] at t3
  have t4:DataW.trod enc Tryz.prog W 0 (fun _=>true) true n 27 ((cs.drop 19).take (Tryz.prog.cellsOf 27))=some (y4.1,y4.2):=a 4 _ rfl
  rw[I3] at t4
  have t5:DataW.trod enc Tryz.prog W 0 (fun _=>true) true n 28 ((cs.drop 20).take (Tryz.prog.cellsOf 28))=some (y5.1,y5.2):=a 5 _ rfl
  rw[Hg] at t5
  have t6:DataW.trod enc Tryz.prog W 0 (fun _=>true) true n 29 ((cs.drop 21).take (Tryz.prog.cellsOf 29))=some (y6.1,y6.2):=a 6 _ rfl
  rw[GN] at t6
  have t7:DataW.trod enc Tryz.prog W 0 (fun _=>true) true n 30 ((cs.drop 22).take (Tryz.prog.cellsOf 30))=some (y7.1,y7.2):=a 7 _ rfl
  rw[Hh] at t7
  have t8:DataW.trod enc Tryz.prog W 0 (fun _=>true) true n 31 ((cs.drop 23).take (Tryz.prog.cellsOf 31))=some (y8.1,y8.2):=a 8 _ rfl
  rw[Hj] at t8
  have t9:DataW.trod enc Tryz.prog W 0 (fun _=>true) true n 32 ((cs.drop 24).take (Tryz.prog.cellsOf 32))=some (y9.1,y9.2):=a 9 _ rfl
  rw[GO] at t9
  have y:DataW.trod enc Tryz.prog W 0 (fun _=>true) true n 33 ((cs.drop 25).take (Tryz.prog.cellsOf 33))=some (y10.1,y10.2):=a 10 _ rfl
  rw[Hk] at y
  have p:=A7 cs 0 1
  obtain ⟨q0,af⟩:∃q,q=(cs.drop 0).take 1:=⟨_,rfl⟩
  rw[<-af] at t0 p
  have s1:=A7 cs 1 6
  obtain ⟨q1,ab⟩:∃q,q=(cs.drop 1).take 6:=⟨_,rfl⟩
  rw[<-ab] at t1 s1
  have s2:=A7 cs 7 6
  obtain ⟨q2,ah⟩:∃q,q=(cs.drop 7).take 6:=⟨_,rfl⟩
  rw[<-ah] at t2 s2
  have s3:=A7 cs 13 6
  obtain ⟨q3,ac⟩:∃q,q=(cs.drop 13).take 6:=⟨_,rfl⟩
  rw[<-ac] at t3 s3
  have s4:=A7 cs 19 1
  obtain ⟨q4,T⟩:∃q,q=(cs.drop 19).take 1:=⟨_,rfl⟩
  rw[<-T] at t4 s4
  have s5:=A7 cs 20 1
  obtain ⟨q5,Z⟩:∃q,q=(cs.drop 20).take 1:=⟨_,rfl⟩
  rw[<-Z] at t5 s5
  have s6:=A7 cs 21 1
  obtain ⟨q6,V⟩:∃q,q=(cs.drop 21).take 1:=⟨_,rfl⟩
  rw[<-V] at t6 s6
  have s7:=A7 cs 22 1
  obtain ⟨q7,M⟩:∃q,q=(cs.drop 22).take 1:=⟨_,rfl⟩
  rw[<-M] at t7 s7
  have s8:=A7 cs 23 1
  obtain ⟨q8,a8⟩:∃q,q=(cs.drop 23).take 1:=⟨_,rfl⟩
  rw[<-a8] at t8 s8
  have s9:=A7 cs 24 1
  obtain ⟨q9,U⟩:∃q,q=(cs.drop 24).take 1:=⟨_,rfl⟩
  rw[<-U] at t9 s9
  have G:=A7 cs 25 1
  obtain ⟨ag,A⟩:∃q,q=(cs.drop 25).take 1:=⟨_,rfl⟩
  rw[<-A] at y G
  have a0:cs.drop 26=[]:=by rw[<-f];exact zI
  simp only[Nat.reduceAdd] at p s1 s2 s3 s4 s5 s6 s7 s8 s9 G
  rw[xf] at p
  rw[s1] at p
  rw[s2] at p
  rw[s3] at p
  rw[s4] at p
  rw[s5] at p
  rw[s6] at p
  rw[s7] at p
  rw[s8] at p
  rw[s9] at p
  rw[G] at p
  rw[a0] at p
  obtain ⟨v0,e0,z0⟩:=Ee t0
  obtain ⟨v1,e1,_⟩:=AJ n q1 _ _ t1 (fun k l=>g k (by
   rw[u.1,DataW.weights,qV]
   exact yC (j:=1) (t:=26) (d:=y1.1) rfl rfl _ l))
  obtain ⟨v2,e2,_⟩:=AJ n q2 _ _ t2 (fun k l=>g k (by
   rw[u.1,DataW.weights,qV]
   exact yC (j:=2) (t:=26) (d:=y2.1) rfl rfl _ l))
  obtain ⟨v3,e3,_⟩:=AJ n q3 _ _ t3 (fun k l=>g k (by
   rw[u.1,DataW.weights,qV]
   exact yC (j:=3) (t:=26) (d:=y3.1) rfl rfl _ l))
  obtain ⟨ap,K⟩:∃v,q4=[v]:=zO.1 (by rw[T,zc,xw,f];rfl)
  rw[K] at t4
  obtain ⟨a6,l4,e4,P,ak,_⟩:=Ed (Pr:=fun cs x=>JS (K5 W) W cs x) qN M1 So (by decide) (fun m _ cs d ps h g r=>TW m cs d ps h g r) t4 (fun k l=>g k (by
   rw[u.1,DataW.weights,qV]
   exact yC (j:=4) (t:=27) (d:=y4.1) rfl rfl _ l))
  rw[e4] at K
  obtain ⟨ax,D⟩:∃v,q5=[v]:=zO.1 (by rw[Z,zc,xw,f];rfl)
  rw[D] at t5
  obtain ⟨a7,l5,e5,a2,am,_⟩:=Ed (Pr:=fun cs x=>I6 (K5 W) W cs x) qO Lw Qm (by decide) (fun m _ cs d ps h g r=>Sr m cs d ps h g r) t5 (fun k l=>g k (by
   rw[u.1,DataW.weights,qV]
   exact yC (j:=5) (t:=28) (d:=y5.1) rfl rfl _ l))
  rw[e5] at D
  obtain ⟨aw,C⟩:∃v,q6=[v]:=zO.1 (by rw[V,zc,xw,f];rfl)
  rw[C] at t6
  obtain ⟨O,l6,e6,Ce,an,_⟩:=Ed (Pr:=fun cs x=>F8 (K5 W) W cs x) qP K3 P9 (by decide) (fun m _ cs d ps h g r=>Qr m cs d ps h g r) t6 (fun k l=>g k (by
   rw[u.1,DataW.weights,qV]
   exact yC (j:=6) (t:=29) (d:=y6.1) rfl rfl _ l))
  rw[e6] at C
  obtain ⟨au,I⟩:∃v,q7=[v]:=zO.1 (by rw[M,zc,xw,f];rfl)
  rw[I] at t7
  obtain ⟨X,l7,e7,Vi,ao,_⟩:=Ed (Pr:=fun cs x=>I7 (K5 W) W cs x) qR Lx Qo (by decide) (fun m _ cs d ps h g r=>Ss m cs d ps h g r) t7 (fun k l=>g k (by
   rw[u.1,DataW.weights,qV]
   exact yC (j:=7) (t:=30) (d:=y7.1) rfl rfl _ l))
  rw[e7] at I
  obtain ⟨ar,J⟩:∃v,q8=[v]:=zO.1 (by rw[a8,zc,xw,f];rfl)
  rw[J] at t8
  obtain ⟨aa,R,e8,s,ai,_⟩:=Ed (Pr:=fun cs (x:Br × Au)=>GW (K5 W) W x.2 cs x.1) qS Lz Sp (by decide) (fun m _ cs d ps h g r=>TX m cs d ps h g r) t8 (fun k l=>g k (by
   rw[u.1,DataW.weights,qV]
   exact yC (j:=8) (t:=31) (d:=y8.1) rfl rfl _ l))
  rw[e8] at J
  obtain ⟨av,F⟩:∃v,q9=[v]:=zO.1 (by rw[U,zc,xw,f];rfl)
  rw[F] at t9
  obtain ⟨N,l9,e9,Q,Y,_⟩:=Ed (Pr:=fun cs x=>F9 (K5 W) W cs x) qT K4 Pa (by decide) (fun m _ cs d ps h g r=>Qs m cs d ps h g r) t9 (fun k l=>g k (by
   rw[u.1,DataW.weights,qV]
   exact yC (j:=9) (t:=32) (d:=y9.1) rfl rfl _ l))
  rw[e9] at F
  obtain ⟨aj,w⟩:∃v,ag=[v]:=zO.1 (by rw[A,zc,xw,f];rfl)
  rw[w] at y
  obtain ⟨z,ae,ad,R6,E,_⟩:=Ed (Pr:=fun cs x=>I8 (K5 W) W cs x) qU LA Qq (by decide) (fun m _ cs d ps h g r=>Su m cs d ps h g r) y (fun k l=>g k (by
   rw[u.1,DataW.weights,qV]
   exact yC (j:=10) (t:=33) (d:=y10.1) rfl rfl _ l))
  rw[ad] at w
  refine ⟨⟨0,a6,a7,O,X,aa,N,z,R.map (·.2)⟩,⟨v0,v1,v2,v3,l4,l5,l6,l7,R.map (·.1),l9,ae⟩,⟨z0,⟨q1,q2,q3,?_,e1,e2,e3⟩,P,a2,Ce,Vi,⟨?_,?_,fun i hi=>?_⟩,Q,R6⟩,E,Y⟩
  ·rw[p,e0,K,D,C,I,J,F,w];simp
  ·rw[yX];exact s.1
  ·rw[yX];exact s.2.1
  ·have S:i < R.length:=by simpa using hi
   obtain ⟨b,o,c,g1,g2,g3,g4,g5⟩:=s.2.2 i S
   refine ⟨b,o,c,g1,g2,g3,g4,?_⟩
   have e:A2 ⟨0,a6,a7,O,X,aa,N,z,R.map (·.2)⟩ i=(R[i]).2:=by
    unfold A2;simp[xK,S]
   rw[e]
   simpa using g5
end
end Go.Proofs.YtjofgpfocadomaaGreatDoor
