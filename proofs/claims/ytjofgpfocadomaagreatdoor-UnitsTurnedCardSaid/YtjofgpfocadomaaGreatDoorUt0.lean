/- Parts of the proof, in short words: Ka La Na Ga Gb Shelf Nb Oa Nc Nd Nf Ng Oe Oc Pe Rq Ea Eb Ef Fa Ec Sq Yo Wa -/
import Derived.Test.YtjofgpfocadomaaGreatDoorProg
import Derived.WalkKit
import Derived.WalkSpells
import Derived.Below
import Derived.Deep.MidRow
import Derived.Lib.Hide
import Derived.RangeFuncNested
import Derived.RangeFuncCalls
import Derived.RangeFuncLeaves
import Derived.Shelf.Small.Strs
import Derived.Shelf.Strings.Search1
import Derived.Shelf.Strings.Search2
import Derived.Shelf.Strings.Search3
import Derived.Shelf.LaysM
import Derived.Shelf.Strings.Shaped
import Derived.Laws.EntriesVeiled
import Derived.WalkLawsBesides
import Derived.Deep.QuietTactic
import Derived.BigQuiet
import Derived.Lib.IndexAny
import Derived.OwnWalkIn
import Derived.TacticsInMore
import Derived.LoopNIn
import Derived.LoopIn
import Derived.Maps.Own
import Derived.Maps.Views
import Derived.OrdersHeld
import Derived.Deep.RegionHeld3
import Derived.Orders
import Derived.OrdersIn
import Derived.TacticsIn
import Derived.ControlIn
import Derived.Great.BuildSlice
import Derived.Deep.Slices
import Derived.Deep.Fields
import Derived.ChangeSame
import Derived.OpenShut
import Derived.SizedLaws
set_option maxRecDepth 100000
set_option maxHeartbeats 4000000
set_option linter.unusedSimpArgs false
set_option linter.defProp false
namespace Go.Proofs.YtjofgpfocadomaaGreatDoor
open Go.RowKit
theorem yb{p:Prop}(h:p):Hid p:=h
theorem _root_.Go.RowKit.Hid.o{p:Prop}(h:Hid p):p:=h
def yd:=@Array.getElem?_eq_some_iff
def yf:=@Nat.le_refl
def yg:=@Below.refl
def yi:=@Option.some.inj
def yj:=@wpList_load_mid
def yk:=@List.getElem?_eq_getElem
def ym:=@List.length_append
def yn:=@Bool.eq_false_iff
def yq:=@List.size_toArray
def yt:=@if_neg
def yu:=@Nat.le_trans
def yv:=@Nat.lt_of_lt_of_le
def yw:=@if_pos
def yx:=@List.length_cons
def yy:=@Nat.zero_add
def yz:=@List.mem_append
def yA:=@List.getElem?_eq_some_iff
def yB:=@all_oneCell_toArray
def yC:=@DataW.weights_mem_each
def yD:=@Below.heap_alloc
def yE:=@Array.getD_eq_getD_getElem?
def yF:=@congrArg
def yG:=@Bool.and_eq_true
def yH:=@List.length_nil
def yI:=@List.mem_cons
def yJ:=@List.take_succ_eq_append_getElem
def yK:=@Nat.zero_le
def yL:=@List.append_assoc
def yM:=@List.getElem_mem
def yN:=@Array.getElem?_modify
def yO:=@of_decide_eq_true
def yP:=@List.cons_append
def yQ:=@World.block_lt_of_cell?
def yR:=@List.all_eq_true
def yS:=@List.nil_append
def yT:=@List.take_length
def yU:=@List.getElem?_append_right
def yV:=@List.append_nil
def yW:=@List.flatMap_cons
def yX:=@List.length_map
def yY:=@List.mem_flatMap
def yZ:=@List.not_mem_nil
def z6:=@callsIn_wide
def z7:=@decide_eq_true_eq
def z8:=@World.size_alloc
def za:=@Option.some.injEq
def zb:=@wpList_store_row
def zc:=@List.length_take
def ze:=@List.mem_singleton
def zg:=@List.mem_range
def zh:=@List.mem_iff_getElem
def zj:=@wp_store_mid
def zk:=@heap_setCell_other
def zl:=@List.length_eq_zero_iff
def zm:=@CallsIn.mono
def zn:=@List.getElem?_append_left
def zo:=@World.rangeAt_of_block
def zp:=@heap_setCell_same
def zq:=@results_none
def zr:=@Prod.mk.injEq
def zs:=@List.flatten_cons
def zt:=@List.flatMap_nil
def zu:=@Array.all_eq_true_iff_forall_mem
def zv:=@List.map_cons
def zw:=@bodyPost_ret
def zx:=@wpList_plain
def zy:=@Array.replicate_succ
def zA:=@Array.replicate_zero
def zB:=@WideShapes.add_plain
def zC:=@List.length_zipIdx
def zD:=@if_true
def zE:=@Oper.semAt_some
def zF:=@List.map_append
def zG:=@List.getElem_map
def zH:=@or_false
def zI:=@List.drop_length
def zJ:=@List.append_toArray
def zK:=@List.flatMap_append
def zL:=@DataW.trod_struct
def zM:=@StepsIn.trans
def zN:=@List.getElem?_take
def zO:=@List.length_eq_one_iff
def zP:=@ByteArray.toList_eq
def zQ:=@List.push_toArray
def zR:=@Nat.add_assoc
def zS:=@List.take_append_drop
def zT:=@List.map_nil
def zU:=@Nat.lt_or_ge
def zV:=@Array.mem_of_getElem?
def zW:=@Nat.add_sub_cancel_left
def zX:=@List.mem_of_getElem?
def zY:=@List.flatMap_map
def zZ:=@List.setIfInBounds_toArray
def xb:=@List.cons.inj
def xd:=@List.take_zero
def xf:=@List.drop_zero
def xg:=@List.drop_eq_getElem_cons
def xi:=@Ne.symm
def xj:=@List.flatten_nil
def xk:=@getD_set_ne
def xm:=@decide_eq_true
def xp:=@List.forall_mem_cons
def xq:=@List.all_eq_false
def xr:=@decide_eq_false
def xt:=@Sem.run_bind
def xu:=@Option.bind_some
def xv:=@List.map_flatMap
def xw:=@List.length_drop
def xx:=@mem_ready
def xy:=@List.getElem_append_right
def xz:=@List.getElem_append_left
def xA:=@Bool.eq_iff_iff
def xB:=@Option.map_some
def xD:=@List.ext_getElem
def xE:=@Array.getElem?_eq_none
def xF:=@List.set_cons_zero
def xG:=@List.set_cons_succ
def xH:=@Below.heap_setCell
def xI:=@Nat.lt_of_le_of_lt
def xK:=@List.getD_eq_getElem?_getD
def xL:=@Nat.mul_le_mul_right
def xM:=@fenced_wide
def xN:=@stepR_block
def xO:=@wp_load_mid
def xP:=@List.zipIdx_cons
def xQ:=@Nat.lt_succ_self
def xR:=@List.mem_map
def xS:=@Value.pointer.injEq
def xT:=@List.getElem?_cons_zero
def xU:=@List.cons.injEq
def xV:=@Array.any_eq_true'
def xW:=@List.take_of_length_le
def xX:=@List.zipWith_cons_cons
def xY:=@Result.andThen_ok
def xZ:=@Nat.add_zero
def qb:=@run_underlying
def qc:=@wpIn_wide
def qd:=@if_false
def qg:=@Lib.cell?_alloc_some
def qi:=@rounds_succ
def qj:=@List.getElem_zipIdx
def qk:=@List.all_append
def qm:=@List.foldl_cons
def qn:=@Nat.eq_zero_or_pos
def qo:=@of_decide_eq_false
def qp:=@Nat.le_of_lt
def qr:=@beq_iff_eq
def qt:=@Nat.mul_le_mul
def qu:=@Array.mk.injEq
def qv:=@Value.slice.injEq
def qw:=@List.getElem?_map
def qz:=@setRow_heap
def qA:=@Nat.one_mul
def qB:=@Addr.mk.injEq
def qC:=@Nat.lt_irrefl
def qD:=@Tryz.underlying107
def qE:=@Tryz.underlying109
def qF:=@Tryz.underlying131
def qG:=@Tryz.underlying135
def qH:=@Tryz.underlying137
def qI:=@Tryz.underlying158
def qL:=@Tryz.underlying24
def qM:=@Tryz.underlying26
def qN:=@Tryz.underlying27
def qO:=@Tryz.underlying28
def qP:=@Tryz.underlying29
def qQ:=@Tryz.underlying3
def qR:=@Tryz.underlying30
def qS:=@Tryz.underlying31
def qT:=@Tryz.underlying32
def qU:=@Tryz.underlying33
def qV:=@Tryz.underlying35
def qW:=@Tryz.underlying39
def qX:=@Tryz.underlying4
def qY:=@Tryz.underlying44
def j0:=@Tryz.underlying50
def j1:=@Tryz.underlying64
def j2:=@Tryz.underlying66
def j3:=@Tryz.underlying68
def j4:=@Tryz.underlying70
def j5:=@Tryz.underlying73
def j6:=@Tryz.underlying81
def j7:=@Tryz.underlying9
def j8:=@Tryz.underlying92
def j9:=@Tryz.underlying94
abbrev iV (n:Int):Value:=.int .i64 n
abbrev aV (b o:Nat):Addr:=⟨b,o,none⟩
abbrev pV (b o:Nat):Value:=.pointer (some ⟨b,o,none⟩)
abbrev LV:=List Value
abbrev LB:=List ByteArray
abbrev NP:=Nat->Prop
abbrev QT:=Exit->Act->World->Prop
abbrev _root_.Go.World.z (w:World):Nat:=w.heap.size
abbrev ja:Array Value:=#[.int .i64 0,.int .i64 0,.int .i64 0,.string {data:=#[]},.int .i64 0,.slice none 0 0]
abbrev jb:Array Value:=#[.int .i64 0,.int .i64 0,.int .i64 0,.int .i64 0,.int .i64 0,.int .i64 0]
abbrev jc:Array Value:=#[.int .i64 0,.int .i64 0]
abbrev jd:Array Value:=#[.int .i64 0,.int .i64 0,.int .i64 0]
abbrev je:List Value:=[Value.int .i64 0,.int .i64 0,.int .i64 0,.string {data:=#[]},.int .i64 0,.slice none 0 0]
abbrev jf:List Value:=[.int .i64 0,.int .i64 0,.int .i64 0]
abbrev jg:Array Value:=#[.int .i64 0]
abbrev jh:Array Value:=#[.slice none 0 0]
end Go.Proofs.YtjofgpfocadomaaGreatDoor
namespace Go.Proofs.YtjofgpfocadomaaGreatDoor
open Go.RowKit
variable{F:Fence}{n:Nat}{P:Program}
def OX(P:Program)(l:Nat)(R:Ending->World->Prop):Exit->Act->World->Prop
 |.normal,_,w=>∃v w',(Instr.endRound l none).run P w=.ok v w'∧R (.returned v) w'
 |.ret,_,w=>∃v w',(Instr.endRound l (some .ret)).run P w=.ok v w'∧R (.returned v) w'
 |.exit id,_,w=>∃v w',(Instr.endRound l (some (.exit id))).run P w=.ok v w'∧R (.returned v) w'
 |.goto t,_,w=>∃v w',(Instr.endRound l (some (.goto t))).run P w=.ok v w'∧R (.returned v) w'
 |.panic chain,a,w=>a.defers=[]∧R (.panicked chain) w
 |.outgrown,_,_=>False
theorem FN{l:Nat}{f:FuncId}{fn:Func}(C:P.funcs[f]?=some fn){tmps:Array Value}{assign body:Code}{w:World}{R:Ending->World->Prop}(I:F.fn f)
 (h:assign.wpIn (F.inRound l) n P (Exit.then (fun u D=>∃z,(Instr.beginRound l).run P D=.ok () z∧body.wpIn (F.inRound l) n P (OX P l R) u z) (fun _ _ _=>False))
   {tmps:=tmps,defers:=[]} w):
  RoundIn F n P l f tmps assign body w R:=by
 refine ⟨I,fun c cs hr=>?_⟩
 let b:Frame:={(default:Frame) with fn:=f,kind:=.normal,roundOf:=some l}
 have A:Frame.round l f tmps assign body .normal=b.atR {tmps:=tmps,defers:=[]} [.code assign,.beginRound,.code body]:=by
  simp[Frame.round,Frame.atR,b]
 have j:(F.inRound l).room ((c::cs).length+1+n):=hr
 have i:(F.inRound l).fn b.fn:=I
 obtain ⟨e,u,D,r,g⟩:=h b [.beginRound,.code body] (c::cs) rfl i j
 rw[<-A] at g
 cases e with
 |normal=>
  obtain ⟨z,E,p⟩:=r
  have x:StepsIn (Machine.fenced P (F.inRound l)) P (lone (b.atR u [.beginRound,.code body]) (c::cs) D) (lone (b.atR u [.code body]) (c::cs) z):=
   .one (fenced_calm (fr:=b.atR u [.beginRound,.code body]) i j rfl) (stepR_beginRound rfl E)
  obtain ⟨J,s,H,k,d⟩:=p b [] (c::cs) rfl i j
  cases J with
  |normal=>
   obtain ⟨v,q,a,m⟩:=k
   exact ⟨.returned v,q,m,(zM g x).trans (zM d (.one (fenced_calm (fr:=b.atR s []) i j rfl) (stepR_round_end rfl rfl a)))⟩
  |ret=>
   obtain ⟨v,q,a,m⟩:=k
   obtain ⟨y,hs⟩:=d.2 rfl
   exact ⟨.returned v,q,m,(zM g x).trans (zM hs (.one (fenced_calm (fr:=b.atR s (.code .ret::y)) i j rfl) (stepR_round_ret rfl rfl a)))⟩
  |exit id=>
   obtain ⟨v,q,a,m⟩:=k
   obtain ⟨y,B,hs⟩:=d.2 rfl rfl
   exact ⟨.returned v,q,m,(zM g x).trans (zM hs (.one (fenced_calm (fr:=b.atR s (.code (.exit id)::y)) i j rfl) (stepR_round_exit rfl rfl B a)))⟩
  |goto t=>
   obtain ⟨v,q,a,m⟩:=k
   obtain ⟨y,B,hs⟩:=d.2 rfl rfl
   exact ⟨.returned v,q,m,(zM g x).trans (zM hs (.one (fenced_calm (fr:=b.atR s (.code (.goto t)::y)) i j rfl) (stepR_round_goto rfl rfl B a)))⟩
  |panic chain=>
   obtain ⟨hd,m⟩:=k
   obtain ⟨o,hs⟩:=d
   have G:Frame.leaving P {b.atR s o with mode:=.panicking chain} H (.panicked chain):=⟨rfl,hd,fn,C⟩
   exact ⟨.panicked chain,H,m,(zM g x).trans (zM hs (.one (fenced_leaving (fr:={b.atR s o with mode:=.panicking chain}) i j G) (step_leave_panicked G)))⟩
  |outgrown=>exact k.elim
 |exit id=>exact r.elim
 |goto t=>exact r.elim
 |ret=>exact r.elim
 |panic chain=>exact r.elim
 |outgrown=>exact r.elim
def AO(O:NP)(W W':World):Prop:=W.heap.size<=W'.heap.size∧∀b,O b->W'.heap[b]?=W.heap[b]?
theorem AO.refl(O:NP)(W:World):AO O W W:=⟨yf _,fun _ _=>rfl⟩
theorem AO.trans{O:NP}{A B C:World}(h:AO O A B)(k:AO O B C):AO O A C:=⟨yu h.1 k.1,fun b hb=>(k.2 b hb).trans (h.2 b hb)⟩
theorem AO.sub{O a:NP}{A B:World}(h:AO O A B)(hs:∀b,a b->O b):AO a A B:=⟨h.1,fun b hb=>h.2 b (hs b hb)⟩
def Ce{β:Type}(J:β->NP->World->Prop):Prop:=
 ∀s O W a W',J s O W->W.heap.size<=W'.heap.size->W'.os=W.os->W'.tape=W.tape->W'.output=W.output->(∀b,¬ O b->b < W.heap.size->W'.heap[b]?=W.heap[b]?)->(∀b,a b->O b∨W.heap.size<=b)->J s a W'
def TF(F:Fence)(n:Nat)(P:Program)(g:Nat)(lb:Array Value)(Hd:World->Prop)(xs:List (Array Value))(own:Option (List PanicEntry)):Prop:=
 ∀(l:Nat) (J:Nat->NP->World->Prop) (Jx:NP->World->Prop) (Jp:List PanicEntry->NP->World->Prop) (W:World),
  Ce J->Ce (fun (_:Unit)=>Jx)->(∀a,Ce (fun (_:Unit)=>Jp a))->(∀k O W,J k O W->Hd W)->(∀O W,Jx O W->Hd W)->(∀a,own=some a->∀O W,J xs.length O W->Jp a O W)->
  (∀k (c:k < xs.length) O W1,J k O W1->W.heap.size<=W1.heap.size->(∀b,O b->W.heap.size<=b∧b < W1.heap.size)->YieldAt F (n - 1) P l xs[k] W1 fun e W'=>
   (e=.returned (.bool true)∧J (k+1) O W'∧AO O W1 W')∨(e=.returned (.bool false)∧Jx O W'∧AO O W1 W')∨(∃a,e=.panicked a∧Jp a O W'∧AO O W1 W'))->
  J 0 (fun _=>False) W->
  CallsIn F n P g (#[.func (.yield l) #[] #[]]++lb) W fun e W'=>
   ((∃v,e=.returned v)∧((own=none∧∃O,J xs.length O W')∨∃O,Jx O W'))∨∃a,e=.panicked a∧∃O,Jp a O W'
def FC(f:FuncId)(P:Program)(c:Code)(Q:QT)(a:Act)(w:World):Prop:=
 ∀(b:Frame) (k:List Item) (cs:List Frame),b.roundOf=none->b.fn=f->
  ∃e d w',Q e d w'∧ArrivesIn (Machine.fenced P Fence.wide) P (lone (b.atR a (.code c::k)) cs w) b k cs e d w'
section
variable{f:FuncId}{Q:QT}{a:Act}{w:World}
theorem TG{c:Code}(h:c.wpIn Fence.wide n P Q a w):FC f P c Q a w:=fun b k cs d _=>h b k cs d trivial (room_wide _)
theorem A4{c:Code}(h:c.wp P Q a w):FC f P c Q a w:=TG (n:=0) (qc.2 h)
theorem Aa{x y:Code}(h:FC f P x (Exit.then (FC f P y Q) Q) a w):FC f P (Code.seq x y) Q a w:=by
 intro b k cs j hb
 have h0:(lone (b.atR a (.code (.seq x y)::k)) cs w).fenced P Fence.wide:=xM _ _
 obtain ⟨e,i,m,g,c⟩:=h b (.code y::k) cs j hb
 cases e with
 |normal=>
  obtain ⟨p,o,q,n,d⟩:=g b k cs j hb
  exact ⟨p,o,q,n,.of_steps (.head h0 stepR_seq c) d⟩
 |exit id=>exact ⟨_,i,m,g,.of_steps (.one h0 stepR_seq) (.pass (x:=.code y) rfl (fun _ _=>.inl (by simp)) c)⟩
 |goto l=>exact ⟨_,i,m,g,.of_steps (.one h0 stepR_seq) (.pass (x:=.code y) rfl (fun _ _=>.inl (by simp)) c)⟩
 |ret=>exact ⟨_,i,m,g,.of_steps (.one h0 stepR_seq) (.pass (x:=.code y) rfl (fun _ _=>.inl (by simp)) c)⟩
 |panic ch=>exact ⟨_,i,m,g,.of_steps (.one h0 stepR_seq) (.pass (x:=.code y) rfl (fun _ _=>.inl (by simp)) c)⟩
 |outgrown=>exact ⟨_,i,m,g,.of_steps (.one h0 stepR_seq) (.pass (x:=.code y) rfl (fun _ _=>.inl (by simp)) c)⟩
theorem Dc{id:Nat}{c:Code}(h:FC f P c (Exit.inBlock id Q) a w):FC f P (Code.block id c) Q a w:=by
 intro b k cs q hb
 have h0:(lone (b.atR a (.code (.block id c)::k)) cs w).fenced P Fence.wide:=xM _ _
 obtain ⟨e,m,n,g,d⟩:=h b (.inBlock id::k) cs q hb
 cases e with
 |normal=>exact ⟨.normal,m,n,g,.head h0 xN (zM d (.one (xM _ _) stepR_inBlock))⟩
 |exit id'=>
  by_cases i:id'=id
  ·simp only[Exit.inBlock,i,zD] at g
   exact ⟨.normal,m,n,g,.head h0 xN (d.1 k (by simp[exitTo,i]))⟩
  ·simp only[Exit.inBlock,i,qd] at g
   have this:(id==id')=false:=by simp;exact fun h=>i h.symm
   have p:exitTo id' (.inBlock id::k)=exitTo id' k:=by simp[exitTo,this]
   exact ⟨.exit id',m,n,g,fun k' j=>.head h0 xN (d.1 k' (by rw[p];exact j)),
    fun o j=>let ⟨k₁,h1,h2⟩:=d.2 o (by rw[p];exact j);⟨k₁,h1,.head h0 xN h2⟩⟩
 |goto l=>
  have p:gotoIn l (.inBlock id::k)=gotoIn l k:=by simp[gotoIn]
  exact ⟨_,m,n,g,fun k' j=>.head h0 xN (d.1 k' (by rw[p];exact j)),
   fun o j=>let ⟨k₁,h1,h2⟩:=d.2 o (by rw[p];exact j);⟨k₁,h1,.head h0 xN h2⟩⟩
 |ret=>exact ⟨_,m,n,g,.of_steps (.one h0 xN) d⟩
 |panic ch=>exact ⟨_,m,n,g,.of_steps (.one h0 xN) d⟩
 |outgrown=>exact ⟨_,m,n,g,.of_steps (.one h0 xN) d⟩
end
def Up(O:NP)(J:Nat->NP->World->Prop)(Jx:Code->NP->World->Prop)(Jp:List PanicEntry->NP->World->Prop)(k:Nat)(W:World):Exit->Act->World->Prop
 |.normal,_,W'=>AO O W W'∧J (k+1) O W'
 |.ret,_,W'=>AO O W W'∧Jx .ret O W'
 |.exit id,_,W'=>AO O W W'∧Jx (.exit id) O W'
 |.goto t,_,W'=>AO O W W'∧Jx (.goto t) O W'
 |.panic ch,a,W'=>a.defers=[]∧AO O W W'∧Jp ch O W'
 |.outgrown,_,_=>False
theorem Ce.put{β:Type}{J:β->NP->World->Prop}(h:Ce J){s:β}{O:NP}{W:World}{l:Nat}(a:O l)(o:Obj)(hs:J s O W):J s O (W.putObj l o):=
 h s O W O _ hs (by simp) rfl rfl rfl (fun b hb _=>World.putObj_heap_other (fun e=>hb (e▸a))) (fun b hb=>.inl hb)
theorem GN{f:FuncId}{g:Operand}{ps:Array Tmp}{assign body:Code}{Q:QT}{a:Act}{w:World}
 (h:∃(l:Nat) (m:List Deferred) (D:World) (d:Deferred) (s:World) (gf:FuncId) (args:Array Value) (E:World),
   (Instr.enterLoop f a.tmps ps assign body none).run P w=.ok (l,m) D∧
   (resolve a.eval (rangeCall g l) 0).run P D=.ok d s∧
   (invoke d.target d.args).run P s=.ok (.enter gf args) E∧
   CallsIn Fence.wide (n - 1) P gf args E (rangePost Fence.wide n P l Q {a with defers:=m++a.defers})):
  FC f P (Code.rangeFunc g ps assign body) Q a w:=by
 intro b k cs x hb
 obtain ⟨l,m,D,d,s,gf,args,E,G,y,t,O,r⟩:=h
 rw[<-x,<-hb] at G
 have j:=stepR_rangeFunc (P:=P) (b:=b) (a:=a) (k:=k) (cs:=cs) (w:=w) G y t
 obtain ⟨e,J,fr,C,i,K,o⟩:=r (b.atR {a with defers:=m++a.defers} (.inRangeFunc l::k)::cs) (room_wide _)
 cases e with
 |outgrown=>
  obtain ⟨L,M,A⟩:=C
  exact ⟨.outgrown,L,M,A,.inr (Outgrown.of_steps (.one j) i)⟩
 |returned v=>
  obtain ⟨q,F,u,H⟩:=C
  have p:StepsIn (Machine.fenced P Fence.wide) P (lone (b.atR a (.code (.rangeFunc g ps assign body)::k)) cs w) (lone (b.atR {a with defers:=m++a.defers} ((q.map Item.code).toList++k)) cs F):=by
   refine .head (xM _ _) j (zM i (.head (xM _ _) ?_ (.one (xM _ _) (stepR_endRangeFunc u))))
   rw[<-finish_atR_inRangeFunc l v];exact step_leave_returned o
  cases q with
  |none=>exact ⟨.normal,_,F,H,p⟩
  |some c=>
   obtain ⟨I,B,N,A,z⟩:=H b k cs x trivial (room_wide _)
   exact ⟨I,B,N,A,.of_steps p z⟩
 |panicked chain=>
  refine ⟨.panic chain,_,J,C,.inRangeFunc l::k,.head (xM _ _) j (zM i (.one (xM _ _) ?_))⟩
  rw[<-Frame.raise_atR];exact step_leave_panicked o
theorem CH{f:FuncId}{fn:Func}(hf:P.funcs[f]?=some fn){g:Operand}{ps:Array Tmp}{assign body:Code}{Q:QT}{a:Act}{w:World}
 {gf:Nat}{lb:Array Value}(hg:a.eval g=.func (.func gf) #[] lb)(eg:∀args w,(callFunc gf args).run P w=.ok (.enter gf args) w)
 {Hd:World->Prop}{xs:List (Array Value)}{own:Option (List PanicEntry)}(a7:TF Fence.wide (n - 1) P gf lb Hd xs own)(ac:∀x∈xs,x.size=ps.size)
 (J:Nat->NP->World->Prop)(Jx:Code->NP->World->Prop)(Jp:List PanicEntry->NP->World->Prop)(A:Nat->Act->NP->World->Prop)
 (hJ:Ce J)(G:∀c,Ce (fun (_:Unit)=>Jx c))(ad:∀y,Ce (fun (_:Unit)=>Jp y))(hA:∀a,Ce (fun k=>A k a))(aj:∀k O W,J k O W->Hd W)(a2:∀c O W,Jx c O W->Hd W)(aa:∀y,own=some y->∀O W,J xs.length O W->Jp y O W)
 (h0:J 0 (fun _=>False) w)
 (F:∀k (hk:k < xs.length) O W l,J k O W->O l->(∃r,W.heap[l]?=some (.loop r))->(∀b,O b->b < W.heap.size)->assign.wpIn (Fence.wide.inRound l) (n - 1 - 1) P (Exit.then (fun Y W₁=>AO O W W₁∧A k Y O W₁) (fun _ _ _=>False))
   {tmps:=(ps.zip xs[k]).foldl (fun t (p,v)=>t.setIfInBounds p v) a.tmps,defers:=[]} W)
 (T:∀k (_:k < xs.length) O W l Y,O l->(∃r,W.heap[l]?=some (.loop r))->(∀b,O b->b < W.heap.size)->A k Y O W->body.wpIn (Fence.wide.inRound l) (n - 1 - 1) P (Up O J Jx Jp k W) Y W)
 (V:own=none->∀D O W,w.heap.size<=D->O D->J xs.length O W->W.heap[D]?=some (.deferred (some []))->Q .normal {a with defers:={target:=.collected D,args:=#[]}::a.defers} W)
 (S:∀D c O W,w.heap.size<=D->O D->Jx c O W->W.heap[D]?=some (.deferred (some []))->c.wpIn Fence.wide n P Q {a with defers:={target:=.collected D,args:=#[]}::a.defers} W)
 (M:∀D y O W,w.heap.size<=D->O D->Jp y O W->W.heap[D]?=some (.deferred (some []))->Q (.panic y) {a with defers:={target:=.collected D,args:=#[]}::a.defers} W):
  FC f P (Code.rangeFunc g ps assign body) Q a w:=by
 refine GN (n:=n) ?_
 obtain ⟨j,o⟩:∃j:LoopState->Option Code->Loop,j=fun st pe=>{state:=st,pending:=pe,fn:=f,tmps:=a.tmps,params:=ps,assign,body,defers:=w.heap.size}:=⟨_,rfl⟩
 obtain ⟨z,H⟩:∃z,(w.alloc (.deferred (some []))).alloc (.loop (j .ready none))=z:=⟨_,rfl⟩
 have ak:z.heap.size=w.heap.size+2:=by rw[<-H];simp
 have ai:z.heap[w.heap.size+1]?=some (.loop (j .ready none)):=by
  rw[<-H];have:=World.alloc_heap_new (w.alloc (.deferred (some []))) (.loop (j .ready none));rwa [z8] at this
 have ae:z.heap[w.heap.size]?=some (.deferred (some [])):=by
  rw[<-H];exact (yD _ _ _ (by simp)).trans (World.alloc_heap_new w _)
 have ah:J 0 (fun b=>False∨b=w.heap.size∨b=w.heap.size+1) z:=by
  rw[<-H]
  refine hJ 0 _ w _ _ h0 (by simp;omega) rfl rfl rfl (fun b _ hb=>?_) (fun b hb=>.inr ?_)
  ·rw[yD _ _ _ (by simp;omega),yD _ _ _ hb]
  ·rcases hb with hb|rfl|rfl
   ·exact hb.elim
   ·exact yf _
   ·omega
 refine ⟨w.heap.size+1,[{target:=.collected w.heap.size,args:=#[]}],z,{target:=.fn (.func gf) lb,args:=#[.func (.yield (w.heap.size+1)) #[] #[]]},z,gf,
  #[.func (.yield (w.heap.size+1)) #[] #[]]++lb,z,?_,?_,?_,?_⟩
 ·rw[<-H,o];exact run_enterLoop_outer _ _ _ _ _
 ·simp only[resolve,hg]
  simp[go_sem]
 ·simp[invoke,go_sem,eg]
 generalize hD:w.heap.size=D at*
 generalize hl:D+1=l at*
 have am:D < l:=by omega
 refine (a7 l
  (fun k O W=>J k (fun b=>O b∨b=D∨b=l) W∧W.heap[l]?=some (.loop (j .ready none))∧W.heap[D]?=some (.deferred (some []))∧(∀b,O b->z.heap.size<=b)∧z.heap.size<=W.heap.size)
  (fun O W=>∃c,Jx c (fun b=>O b∨b=D∨b=l) W∧W.heap[l]?=some (.loop (j .done (some c)))∧W.heap[D]?=some (.deferred (some []))∧(∀b,O b->z.heap.size<=b)∧z.heap.size<=W.heap.size)
  (fun y O W=>Jp y (fun b=>O b∨b=D∨b=l) W∧W.heap[D]?=some (.deferred (some []))∧(∀b,O b->z.heap.size<=b)∧z.heap.size<=W.heap.size) z ?_ ?_ ?_ ?_ ?_ ?_ ?_ ⟨ah,ai,ae,fun b hb=>hb.elim,yf _⟩).mono ?_
 ·rintro k O W O' W' ⟨h1,h2,h3,q,h5⟩ Z X ht hu i R
  refine ⟨hJ k _ W _ W' h1 Z X ht hu (fun b hb C=>i b (fun h=>hb (.inl h)) C) (fun b hb=>?_),?_,?_,fun b hb=>?_,by omega⟩
  ·rcases hb with hb|hb
   ·rcases R b hb with h|h
    ·exact .inl (.inl h)
    ·exact .inr h
   ·exact .inl (.inr hb)
  ·exact (i l (fun h=>by have:=q l h;omega) (yd.1 h2).1).trans h2
  ·exact (i D (fun h=>by have:=q D h;omega) (yd.1 h3).1).trans h3
  ·rcases R b hb with h|h
   ·exact q b h
   ·omega
 ·rintro _ O W O' W' ⟨c,h1,h2,h3,q,h5⟩ Z X ht hu i R
  refine ⟨c,G c () _ W _ W' h1 Z X ht hu (fun b hb C=>i b (fun h=>hb (.inl h)) C) (fun b hb=>?_),?_,?_,fun b hb=>?_,by omega⟩
  ·rcases hb with hb|hb
   ·rcases R b hb with h|h
    ·exact .inl (.inl h)
    ·exact .inr h
   ·exact .inl (.inr hb)
  ·exact (i l (fun h=>by have:=q l h;omega) (yd.1 h2).1).trans h2
  ·exact (i D (fun h=>by have:=q D h;omega) (yd.1 h3).1).trans h3
  ·rcases R b hb with h|h
   ·exact q b h
   ·omega
 ·rintro y _ O W O' W' ⟨h1,h3,q,h5⟩ Z X ht hu i R
  refine ⟨ad y () _ W _ W' h1 Z X ht hu (fun b hb C=>i b (fun h=>hb (.inl h)) C) (fun b hb=>?_),?_,fun b hb=>?_,by omega⟩
  ·rcases hb with hb|hb
   ·rcases R b hb with h|h
    ·exact .inl (.inl h)
    ·exact .inr h
   ·exact .inl (.inr hb)
  ·exact (i D (fun h=>by have:=q D h;omega) (yd.1 h3).1).trans h3
  ·rcases R b hb with h|h
   ·exact q b h
   ·omega
 ·exact fun k O W h=>aj k _ W h.1
 ·exact fun O W h=>h.elim fun c h=>a2 c _ W h.1
 ·exact fun y he O W h=>⟨aa y he _ W h.1,h.2.2.1,h.2.2.2.1,h.2.2.2.2⟩
 ·
  rintro k hk O W ⟨h1,h2,h3,q,h5⟩ Z ag
  have hy:=run_yield (P:=P) (args:=xs[k]) h2 (by rw[o];exact ac _ (yM hk))
  rw[o] at hy
  have a8:∀b,(O b∨b=D∨b=l)->b < W.heap.size:=fun b hb=>by
   rcases hb with hb|hb|hb
   ·exact (ag b hb).2
   ·rw[hb];exact (yd.1 h3).1
   ·rw[hb];exact (yd.1 h2).1
  refine ⟨f,_,assign,body,hy,FN hf trivial (wpIn_mono (F k hk _ W l h1 (.inr (.inr rfl)) ⟨_,h2⟩ a8) ?_)⟩
  clear hy
  rintro e Y Wa E
  cases e with
  |normal=>
   obtain ⟨hs,af⟩:=E
   have I:=(hs.2 l (.inr (.inr rfl))).trans h2
   have N:=(hs.2 D (.inr (.inl rfl))).trans h3
   have C:=(yd.1 I).1
   refine ⟨_,run_beginRound I (by rw[o]),?_⟩
   have a0:(Wa.putObj l (.loop {j .ready none with state:=.busy})).heap[l]?=some (.loop {j .ready none with state:=.busy}):=World.putObj_heap_same C
   have a6:(Wa.putObj l (.loop {j .ready none with state:=.busy})).heap[D]?=some (.deferred (some [])):=(World.putObj_heap_other (by omega)).trans N
   refine wpIn_mono (T k hk _ _ l Y (.inr (.inr rfl)) ⟨_,a0⟩ (fun b hb=>by have:=a8 b hb;have:=hs.1;simp;omega) ((hA Y).put (.inr (.inr rfl)) _ af)) ?_
   have K:∀(d:Option Code) (B:World),AO (fun b=>O b∨b=D∨b=l) (Wa.putObj l (.loop {j .ready none with state:=.busy})) B->
     (Instr.endRound l d).run P B=.ok (.bool d.isNone) (B.putObj l (.loop (j (if d.isNone then .ready else .done) d)))∧
     (B.putObj l (.loop (j (if d.isNone then .ready else .done) d))).heap[l]?=some (.loop (j (if d.isNone then .ready else .done) d))∧
     (B.putObj l (.loop (j (if d.isNone then .ready else .done) d))).heap[D]?=some (.deferred (some []))∧
     z.heap.size<=(B.putObj l (.loop (j (if d.isNone then .ready else .done) d))).heap.size∧
     AO O W (B.putObj l (.loop (j (if d.isNone then .ready else .done) d))):=fun d B m=>by
    have ab:=(m.2 l (.inr (.inr rfl))).trans a0
    have hr:=run_endRound (P:=P) d ab
    rw[o] at hr ⊢
    have z1:=hs.1
    have z3:Wa.heap.size<=B.heap.size:=by have:=m.1;simpa using this
    refine ⟨hr,World.putObj_heap_same (yd.1 ab).1,(World.putObj_heap_other (by omega)).trans ((m.2 D (.inr (.inl rfl))).trans a6),by simp;omega,by simp;omega,fun b hb=>?_⟩
    have L:b≠l:=fun e=>by have:=q b hb;subst e;omega
    rw[World.putObj_heap_other L,m.2 b (.inl hb),World.putObj_heap_other L,hs.2 b (.inl hb)]
   rintro e a3 B E
   cases e with
   |normal=>
    obtain ⟨m,u⟩:=E
    obtain ⟨hr,g1,I,N,U⟩:=K none B m
    exact ⟨_,_,hr,.inl ⟨rfl,⟨hJ.put (.inr (.inr rfl)) _ u,g1,I,q,N⟩,U⟩⟩
   |ret=>
    obtain ⟨m,u⟩:=E
    obtain ⟨hr,g1,I,N,U⟩:=K (some .ret) B m
    exact ⟨_,_,hr,.inr (.inl ⟨rfl,⟨.ret,(G .ret).put (s:=()) (.inr (.inr rfl)) _ u,g1,I,q,N⟩,U⟩)⟩
   |exit id=>
    obtain ⟨m,u⟩:=E
    obtain ⟨hr,g1,I,N,U⟩:=K (some (.exit id)) B m
    exact ⟨_,_,hr,.inr (.inl ⟨rfl,⟨.exit id,(G (.exit id)).put (s:=()) (.inr (.inr rfl)) _ u,g1,I,q,N⟩,U⟩)⟩
   |goto t=>
    obtain ⟨m,u⟩:=E
    obtain ⟨hr,g1,I,N,U⟩:=K (some (.goto t)) B m
    exact ⟨_,_,hr,.inr (.inl ⟨rfl,⟨.goto t,(G (.goto t)).put (s:=()) (.inr (.inr rfl)) _ u,g1,I,q,N⟩,U⟩)⟩
   |panic y=>
    obtain ⟨hd,m,u⟩:=E
    have z1:=hs.1
    have z3:Wa.heap.size<=B.heap.size:=by have:=m.1;simpa using this
    refine ⟨hd,.inr (.inr ⟨y,rfl,⟨u,(m.2 D (.inr (.inl rfl))).trans a6,q,by omega⟩,by omega,fun b hb=>?_⟩)⟩
    have L:b≠l:=fun e=>by have:=q b hb;subst e;omega
    rw[m.2 b (.inl hb),World.putObj_heap_other L,hs.2 b (.inl hb)]
   |outgrown=>exact E.elim
  |exit id=>exact E.elim
  |goto t=>exact E.elim
  |ret=>exact E.elim
  |panic y=>exact E.elim
  |outgrown=>exact E.elim
 ·
  rintro e W2 (⟨⟨v,rfl⟩,(⟨X,O,h1,h2,h3,q,h5⟩|⟨O,c,h1,h2,h3,q,h5⟩)⟩|⟨y,rfl,O,h1,h2,q,h5⟩)
  ·exact ⟨none,_,by have:=run_endLoop (P:=P) h2 (by rw[o];simp);rw[o] at this;exact this,V X D _ _ (yf _) (.inr (.inl rfl)) (hJ.put (.inr (.inr rfl)) _ h1) ((World.putObj_heap_other (by omega)).trans h3)⟩
  ·exact ⟨some c,_,by have:=run_endLoop (P:=P) h2 (by rw[o];simp);rw[o] at this;exact this,S D c _ _ (yf _) (.inr (.inl rfl)) ((G c).put (s:=()) (.inr (.inr rfl)) _ h1) ((World.putObj_heap_other (by omega)).trans h3)⟩
  ·exact M D y _ W2 (yf _) (.inr (.inl rfl)) h1 h2
theorem Bl{f:FuncId}{fn:Func}{c:Code}{args:Array Value}{w:World}{R:Ending->World->Prop}(t:P.funcs[f]?=some fn)(hb:fn.body=some c)
 (h:FC f P c (bodyPostM Fence.wide n P fn R) {tmps:=args++Array.replicate (fn.ntmps - args.size) undef,defers:=[]} w):Calls P f args w R:=by
 refine (z6 (n:=n)).1 ⟨trivial,fun cs hr=>?_⟩
 let b:Frame:={(default:Frame) with fn:=f,kind:=.normal,roundOf:=none}
 have k:Frame.enter P f args .normal=
   b.atR {tmps:=args++Array.replicate (fn.ntmps - args.size) undef,defers:=[]} [.code c]:=by
  simp[Frame.enter,Frame.atR,t,hb,b]
 obtain ⟨e,o,w',p,a⟩:=h b [] cs rfl rfl
 rw[<-k] at a
 cases e with
 |normal=>
  obtain ⟨q,i,g,s,hs,d,r⟩:=leaves_stepsInM o.defers .returning w' {b.atR o [] with mode:=.returning} cs rfl rfl rfl t rfl trivial hr p
  exact ⟨q,i,g,s,ComesIn.of_steps (zM a (.one (xM _ _) (stepR_end rfl))) hs,d,r⟩
 |ret=>
  obtain ⟨j,m⟩:=a.1 rfl
  obtain ⟨q,i,g,s,hs,d,r⟩:=leaves_stepsInM o.defers .returning w' {b.atR o j with mode:=.returning} cs rfl rfl rfl t rfl trivial hr p
  exact ⟨q,i,g,s,ComesIn.of_steps m hs,d,r⟩
 |panic chain=>
  obtain ⟨j,m⟩:=a
  obtain ⟨q,i,g,s,hs,d,r⟩:=leaves_stepsInM o.defers (.panicking chain) w' {b.atR o j with mode:=.panicking chain} cs rfl rfl rfl t rfl trivial hr p
  exact ⟨q,i,g,s,ComesIn.of_steps m hs,d,r⟩
 |exit id=>exact p.elim
 |goto l=>exact p.elim
 |outgrown=>exact ⟨.outgrown,w',b,p,a.resolve_left (by simp[b]),rfl,trivial⟩
end Go.Proofs.YtjofgpfocadomaaGreatDoor
namespace Go.Proofs.YtjofgpfocadomaaGreatDoor
open Go.RowKit
inductive Ex where
 |mk (op n u:Int) (rn:ByteArray) (ri:Int) (args:List Ex)
namespace Ex
def op:Ex->Int|.mk o _ _ _ _ _=>o
def n:Ex->Int|.mk _ n _ _ _ _=>n
def u:Ex->Int|.mk _ _ u _ _ _=>u
def rn:Ex->ByteArray|.mk _ _ _ r _ _=>r
def ri:Ex->Int|.mk _ _ _ _ i _=>i
def args:Ex->List Ex|.mk _ _ _ _ _ l=>l
end Ex
mutual
def AH(N:NP)(w:World):Ex->LV->Prop
 |.mk op n u rn ri args,cs=>∃a cap,cs=[.int .i64 op,.int .i64 n,.int .i64 u,.string rn,.int .i64 ri,.slice a args.length cap]∧args.length<=140737488355328∧rn.size<=maxLen∧CL N w a 0 args
def CL(N:NP)(w:World)(a:Option Addr):Nat->List Ex->Prop
 |_,[]=>True
 |i,e::r=>(∃b o cs,a=some ⟨b,o,none⟩∧N b∧w.rangeAt b (o+i*6) cs∧AH N w e cs)∧CL N w a (i+1) r
end
def S5(N:NP)(w:World)(v:Value)(l:List Ex):Prop:=∃a cap,v=.slice a l.length cap∧l.length<=140737488355328∧CL N w a 0 l
theorem DV{N:NP}{w:World}{a:Option Addr}:∀ {l:List Ex} {k:Nat},CL N w a k l->∀i (h:i < l.length),∃b o cs,a=some ⟨b,o,none⟩∧N b∧w.rangeAt b (o+(k+i)*6) cs∧AH N w l[i] cs
 |[],_,_,i,h=>by simp at h
 |e::r,k,hr,i,h=>by
  rw[CL] at hr
  cases i with
  |zero=>exact hr.1
  |succ i=>
   obtain ⟨b,o,cs,h1,h2,h3,c⟩:=DV hr.2 i (by simpa using h)
   exact ⟨b,o,cs,h1,h2,by rw[show k+(i+1)=k+1+i by omega];exact h3,by simpa using c⟩
theorem A0{w w':World}{b o:Nat}{cs:LV}(h:w.rangeAt b o cs)(hb:w'.heap[b]?=w.heap[b]?):w'.rangeAt b o cs:=fun j v a=>by
 have:=h j v a
 unfold World.cell? at this ⊢
 rw[hb];exact this
mutual
theorem AH.same{N N':NP}{w w':World}(c:∀b,N b->N' b)(hb:∀b,N b->w'.heap[b]?=w.heap[b]?):∀ {e:Ex} {cs:LV},AH N w e cs->AH N' w' e cs
 |.mk _ _ _ _ _ args,_,h=>by
  rw[AH] at h ⊢
  obtain ⟨a,cap,h1,h2,h3,d⟩:=h
  exact ⟨a,cap,h1,h2,h3,CL.same c hb d⟩
theorem CL.same{N N':NP}{w w':World}{a:Option Addr}(c:∀b,N b->N' b)(hb:∀b,N b->w'.heap[b]?=w.heap[b]?):∀ {l:List Ex} {k:Nat},CL N w a k l->CL N' w' a k l
 |[],_,h=>by rw[CL];trivial
 |e::r,k,h=>by
  rw[CL] at h ⊢
  obtain ⟨⟨b,o,cs,h1,h2,h3,d⟩,h5⟩:=h
  exact ⟨⟨b,o,cs,h1,c b h2,A0 h3 (hb b h2),AH.same c hb d⟩,CL.same c hb h5⟩
end
theorem S5.same{N N':NP}{w w':World}{v:Value}{l:List Ex}(c:∀b,N b->N' b)(hb:∀b,N b->w'.heap[b]?=w.heap[b]?)(h:S5 N w v l):S5 N' w' v l:=by
 obtain ⟨a,cap,h1,h2,h3⟩:=h
 exact ⟨a,cap,h1,h2,CL.same c hb h3⟩
mutual
def AE:Ex->Nat
 |.mk _ _ _ _ _ args=>B6 args
def B6:List Ex->Nat
 |[]=>0
 |e::r=>max (1+AE e) (B6 r)
end
mutual
theorem IQ{P:Ex->Prop}(h:∀op n u rn ri args,(∀e∈args,P e)->P (.mk op n u rn ri args)):∀e,P e
 |.mk op n u rn ri args=>h op n u rn ri args (Q7 h args)
theorem Q7{P:Ex->Prop}(h:∀op n u rn ri args,(∀e∈args,P e)->P (.mk op n u rn ri args)):∀l:List Ex,∀e∈l,P e
 |[]=>fun _ a=>by simp at a
 |x::r=>fun e a=>(yI.1 a).elim (fun q=>q▸IQ h x) (Q7 h r e)
end
theorem Jf:∀(l:List Ex) (e:Ex),B6 (l++[e])=max (B6 l) (1+AE e)
 |[],e=>by simp[B6]
 |x::r,e=>by
  rw[yP,B6,B6,Jf r e,Nat.max_assoc]
theorem Jg{l:List Ex}{i:Nat}(h:i < l.length):B6 (l.take (i+1))=max (B6 (l.take i)) (1+AE l[i]):=by
 rw[yJ h,Jf]
theorem IS:∀(l:List Ex) (i:Nat),B6 (l.take i)<=B6 l
 |[],i=>by simp
 |x::r,0=>by simp[B6]
 |x::r,i+1=>by
  rw[List.take_succ_cons,B6,B6]
  have:=IS r i
  omega
theorem OY{l:List Ex}{i:Nat}(h:i < l.length):1+AE l[i]<=B6 l:=by
 have h1:=Jg h
 have h2:=IS l (i+1)
 omega
theorem AH.cells{N:NP}{w:World}{e:Ex}{cs:LV}(h:AH N w e cs):∃a cap,cs=[.int .i64 e.op,.int .i64 e.n,.int .i64 e.u,.string e.rn,.int .i64 e.ri,.slice a e.args.length cap]∧e.args.length<=140737488355328∧e.rn.size<=maxLen∧CL N w a 0 e.args:=by
 cases e
 rw[AH] at h
 exact h
theorem AH.mk'{N:NP}{w:World}{e:Ex}{a:Option Addr}{cap:Nat}(h1:e.args.length<=140737488355328)(h2:e.rn.size<=maxLen)(h3:CL N w a 0 e.args):
  AH N w e [.int .i64 e.op,.int .i64 e.n,.int .i64 e.u,.string e.rn,.int .i64 e.ri,.slice a e.args.length cap]:=by
 cases e
 rw[AH]
 exact ⟨a,cap,rfl,h1,h2,h3⟩
theorem Br{w:World}{b o:Nat}{x0 e a c d f:Value}(h:w.rangeAt b o [x0,e,a,c,d,f]):w.cell? ⟨b,o,none⟩=some x0∧w.cell? ⟨b,o+1,none⟩=some e∧w.cell? ⟨b,o+2,none⟩=some a∧w.cell? ⟨b,o+3,none⟩=some c∧w.cell? ⟨b,o+4,none⟩=some d∧w.cell? ⟨b,o+5,none⟩=some f:=
 ⟨h 0 _ rfl,h 1 _ rfl,h 2 _ rfl,h 3 _ rfl,h 4 _ rfl,h 5 _ rfl⟩
theorem Ed{N:NP}{B:Nat}{w w':World}(hN:∀b,N b->b < B)(hb:Below B w w'):∀b,N b->w'.heap[b]?=w.heap[b]?:=fun b h=>hb.block b (hN b h)
set_option linter.unusedSimpArgs false
theorem GO(n:Int):IntKind.u64.wrap n=n % 18446744073709551616:=by
 unfold IntKind.wrap;simp (decide:=true) [IntKind.signed,IntKind.bits]
theorem FD(n:Int)(h1: -4611686018427387904<=n)(h2:n<=4611686018427387904)(w:World):Calls Tryz.prog 28 #[.int .i64 n] w fun e w'=>e=.returned (.int .u64 (n.natAbs:Int))∧w'=w:=by
 have b:n < 0->IntKind.u64.wrap (-IntKind.u64.wrap n)=(n.natAbs:Int):=by
  intro a;rw[GO,GO];omega
 go_enter Tryz.func28,Tryz.ntmps28
 by_cases a:n < 0
 ·have c:=b a
  go_wp2
  go_ret
  exact ⟨rfl,rfl⟩
 ·clear b
  have hd:decide (n < 0)=false:=by simpa using a
  go_wp2
  go_ret
  exact ⟨yF (fun z=>Ending.returned (Value.int IntKind.u64 z)) (show n=(n.natAbs:Int) by omega),rfl⟩
end Go.Proofs.YtjofgpfocadomaaGreatDoor
namespace Go.Proofs.YtjofgpfocadomaaGreatDoor
open Go.RowKit
variable{F:Fence}{n:Nat}{P:Program}
def Vb(F:Fence)(n:Nat)(P:Program)(g:Nat)(lb:Array Value)(K:NP)(c:World)(Hd:World->Prop)(xs:List (Array Value))(own:Option (List PanicEntry)):Prop:=
 ∀(l:Nat) (J:Nat->NP->World->Prop) (Jx:NP->World->Prop) (Jp:List PanicEntry->NP->World->Prop) (W:World),
  Ce J->Ce (fun (_:Unit)=>Jx)->(∀a,Ce (fun (_:Unit)=>Jp a))->(∀k O W,J k O W->Hd W)->(∀O W,Jx O W->Hd W)->(∀a,own=some a->∀O W,J xs.length O W->Jp a O W)->
  (∀k (d:k < xs.length) O W1,J k O W1->W.heap.size<=W1.heap.size->(∀b,O b->(K b∨W.heap.size<=b)∧b < W1.heap.size)->YieldAt F (n - 1) P l xs[k] W1 fun e W'=>
   (e=.returned (.bool true)∧J (k+1) O W'∧AO O W1 W')∨(e=.returned (.bool false)∧Jx O W'∧AO O W1 W')∨(∃a,e=.panicked a∧Jp a O W'∧AO O W1 W'))->
  (∀b,K b->b < W.heap.size)->AO K c W->J 0 K W->
  CallsIn F n P g (#[.func (.yield l) #[] #[]]++lb) W fun e W'=>
   ((∃v,e=.returned v)∧((own=none∧∃O,J xs.length O W')∨∃O,Jx O W'))∨∃a,e=.panicked a∧∃O,Jp a O W'
theorem Ni{f:FuncId}{fn:Func}(hf:P.funcs[f]?=some fn){g:Operand}{ps:Array Tmp}{assign body:Code}{Q:QT}{a:Act}{w:World}
 {gf:Nat}{lb:Array Value}(hg:a.eval g=.func (.func gf) #[] lb)(eg:∀args w,(callFunc gf args).run P w=.ok (.enter gf args) w)
 {Hd:World->Prop}{xs:List (Array Value)}{own:Option (List PanicEntry)}{K:NP}(hK:∀b,K b->b < w.heap.size)(a7:Vb Fence.wide (n - 1) P gf lb K w Hd xs own)(ac:∀x∈xs,x.size=ps.size)
 (J:Nat->NP->World->Prop)(Jx:Code->NP->World->Prop)(Jp:List PanicEntry->NP->World->Prop)(A:Nat->Act->NP->World->Prop)
 (hJ:Ce J)(I:∀c,Ce (fun (_:Unit)=>Jx c))(ad:∀y,Ce (fun (_:Unit)=>Jp y))(hA:∀a,Ce (fun k=>A k a))(ak:∀k O W,J k O W->Hd W)(a2:∀c O W,Jx c O W->Hd W)(aa:∀y,own=some y->∀O W,J xs.length O W->Jp y O W)
 (h0:J 0 K w)
 (H:∀k (hk:k < xs.length) O W l,J k O W->O l->(∃r,W.heap[l]?=some (.loop r))->(∀b,O b->b < W.heap.size)->assign.wpIn (Fence.wide.inRound l) (n - 1 - 1) P (Exit.then (fun a₁ W₁=>AO O W W₁∧A k a₁ O W₁) (fun _ _ _=>False))
   {tmps:=(ps.zip xs[k]).foldl (fun t (p,v)=>t.setIfInBounds p v) a.tmps,defers:=[]} W)
 (V:∀k (_:k < xs.length) O W l a₁,O l->(∃r,W.heap[l]?=some (.loop r))->(∀b,O b->b < W.heap.size)->A k a₁ O W->body.wpIn (Fence.wide.inRound l) (n - 1 - 1) P (Up O J Jx Jp k W) a₁ W)
 (Y:own=none->∀D O W,w.heap.size<=D->O D->J xs.length O W->W.heap[D]?=some (.deferred (some []))->Q .normal {a with defers:={target:=.collected D,args:=#[]}::a.defers} W)
 (U:∀D c O W,w.heap.size<=D->O D->Jx c O W->W.heap[D]?=some (.deferred (some []))->c.wpIn Fence.wide n P Q {a with defers:={target:=.collected D,args:=#[]}::a.defers} W)
 (R:∀D y O W,w.heap.size<=D->O D->Jp y O W->W.heap[D]?=some (.deferred (some []))->Q (.panic y) {a with defers:={target:=.collected D,args:=#[]}::a.defers} W):
  FC f P (Code.rangeFunc g ps assign body) Q a w:=by
 refine GN (n:=n) ?_
 obtain ⟨j,o⟩:∃j:LoopState->Option Code->Loop,j=fun st pe=>{state:=st,pending:=pe,fn:=f,tmps:=a.tmps,params:=ps,assign,body,defers:=w.heap.size}:=⟨_,rfl⟩
 obtain ⟨z,G⟩:∃z,(w.alloc (.deferred (some []))).alloc (.loop (j .ready none))=z:=⟨_,rfl⟩
 have am:z.heap.size=w.heap.size+2:=by rw[<-G];simp
 have aj:z.heap[w.heap.size+1]?=some (.loop (j .ready none)):=by
  rw[<-G];have:=World.alloc_heap_new (w.alloc (.deferred (some []))) (.loop (j .ready none));rwa [z8] at this
 have ae:z.heap[w.heap.size]?=some (.deferred (some [])):=by
  rw[<-G];exact (yD _ _ _ (by simp)).trans (World.alloc_heap_new w _)
 have ai:J 0 (fun b=>K b∨b=w.heap.size∨b=w.heap.size+1) z:=by
  rw[<-G]
  refine hJ 0 _ w _ _ h0 (by simp;omega) rfl rfl rfl (fun b _ hb=>?_) (fun b hb=>?_)
  ·rw[yD _ _ _ (by simp;omega),yD _ _ _ hb]
  ·rcases hb with hb|rfl|rfl
   ·exact .inl hb
   ·exact .inr (yf _)
   ·exact .inr (by omega)
 have ag:AO K w z:=by
  rw[<-G]
  exact ⟨by simp;omega,fun b hb=>by rw[yD _ _ _ (by have:=hK b hb;simp;omega),yD _ _ _ (hK b hb)]⟩
 refine ⟨w.heap.size+1,[{target:=.collected w.heap.size,args:=#[]}],z,{target:=.fn (.func gf) lb,args:=#[.func (.yield (w.heap.size+1)) #[] #[]]},z,gf,
  #[.func (.yield (w.heap.size+1)) #[] #[]]++lb,z,?_,?_,?_,?_⟩
 ·rw[<-G,o];exact run_enterLoop_outer _ _ _ _ _
 ·simp only[resolve,hg]
  simp[go_sem]
 ·simp[invoke,go_sem,eg]
 generalize hD:w.heap.size=D at*
 generalize hl:D+1=l at*
 have an:D < l:=by omega
 have B:∀b,K b->b < D:=hK
 refine (a7 l
  (fun k O W=>J k (fun b=>O b∨b=D∨b=l) W∧W.heap[l]?=some (.loop (j .ready none))∧W.heap[D]?=some (.deferred (some []))∧(∀b,O b->K b∨z.heap.size<=b)∧z.heap.size<=W.heap.size)
  (fun O W=>∃c,Jx c (fun b=>O b∨b=D∨b=l) W∧W.heap[l]?=some (.loop (j .done (some c)))∧W.heap[D]?=some (.deferred (some []))∧(∀b,O b->K b∨z.heap.size<=b)∧z.heap.size<=W.heap.size)
  (fun y O W=>Jp y (fun b=>O b∨b=D∨b=l) W∧W.heap[D]?=some (.deferred (some []))∧(∀b,O b->K b∨z.heap.size<=b)∧z.heap.size<=W.heap.size) z ?_ ?_ ?_ ?_ ?_ ?_ ?_ (fun b hb=>by have:=B b hb;omega) ag ⟨ai,aj,ae,fun b hb=>.inl hb,yf _⟩).mono ?_
 ·rintro k O W O' W' ⟨h1,h2,h3,q,h5⟩ hz Z ht hu i T
  refine ⟨hJ k _ W _ W' h1 hz Z ht hu (fun b hb E=>i b (fun h=>hb (.inl h)) E) (fun b hb=>?_),?_,?_,fun b hb=>?_,by omega⟩
  ·rcases hb with hb|hb
   ·rcases T b hb with h|h
    ·exact .inl (.inl h)
    ·exact .inr h
   ·exact .inl (.inr hb)
  ·exact (i l (fun h=>by have:=q l h;have:=B l;grind) (yd.1 h2).1).trans h2
  ·exact (i D (fun h=>by have:=q D h;have:=B D;grind) (yd.1 h3).1).trans h3
  ·rcases T b hb with h|h
   ·exact q b h
   ·exact .inr (by omega)
 ·rintro _ O W O' W' ⟨c,h1,h2,h3,q,h5⟩ hz Z ht hu i T
  refine ⟨c,I c () _ W _ W' h1 hz Z ht hu (fun b hb E=>i b (fun h=>hb (.inl h)) E) (fun b hb=>?_),?_,?_,fun b hb=>?_,by omega⟩
  ·rcases hb with hb|hb
   ·rcases T b hb with h|h
    ·exact .inl (.inl h)
    ·exact .inr h
   ·exact .inl (.inr hb)
  ·exact (i l (fun h=>by have:=q l h;have:=B l;grind) (yd.1 h2).1).trans h2
  ·exact (i D (fun h=>by have:=q D h;have:=B D;grind) (yd.1 h3).1).trans h3
  ·rcases T b hb with h|h
   ·exact q b h
   ·exact .inr (by omega)
 ·rintro y _ O W O' W' ⟨h1,h3,q,h5⟩ hz Z ht hu i T
  refine ⟨ad y () _ W _ W' h1 hz Z ht hu (fun b hb E=>i b (fun h=>hb (.inl h)) E) (fun b hb=>?_),?_,fun b hb=>?_,by omega⟩
  ·rcases hb with hb|hb
   ·rcases T b hb with h|h
    ·exact .inl (.inl h)
    ·exact .inr h
   ·exact .inl (.inr hb)
  ·exact (i D (fun h=>by have:=q D h;have:=B D;grind) (yd.1 h3).1).trans h3
  ·rcases T b hb with h|h
   ·exact q b h
   ·exact .inr (by omega)
 ·exact fun k O W h=>ak k _ W h.1
 ·exact fun O W h=>h.elim fun c h=>a2 c _ W h.1
 ·exact fun y he O W h=>⟨aa y he _ W h.1,h.2.2.1,h.2.2.2.1,h.2.2.2.2⟩
 ·
  rintro k hk O W ⟨h1,h2,h3,q,h5⟩ hz ah
  have hy:=run_yield (P:=P) (args:=xs[k]) h2 (by rw[o];exact ac _ (yM hk))
  rw[o] at hy
  have a8:∀b,(O b∨b=D∨b=l)->b < W.heap.size:=fun b hb=>by
   rcases hb with hb|hb|hb
   ·exact (ah b hb).2
   ·rw[hb];exact (yd.1 h3).1
   ·rw[hb];exact (yd.1 h2).1
  refine ⟨f,_,assign,body,hy,FN hf trivial (wpIn_mono (H k hk _ W l h1 (.inr (.inr rfl)) ⟨_,h2⟩ a8) ?_)⟩
  clear hy
  rintro e a₁ Wa F
  cases e with
  |normal=>
   obtain ⟨hs,af⟩:=F
   have L:=(hs.2 l (.inr (.inr rfl))).trans h2
   have S:=(hs.2 D (.inr (.inl rfl))).trans h3
   have E:=(yd.1 L).1
   refine ⟨_,run_beginRound L (by rw[o]),?_⟩
   have a0:(Wa.putObj l (.loop {j .ready none with state:=.busy})).heap[l]?=some (.loop {j .ready none with state:=.busy}):=World.putObj_heap_same E
   have a6:(Wa.putObj l (.loop {j .ready none with state:=.busy})).heap[D]?=some (.deferred (some [])):=(World.putObj_heap_other (by omega)).trans S
   refine wpIn_mono (V k hk _ _ l a₁ (.inr (.inr rfl)) ⟨_,a0⟩ (fun b hb=>by have:=a8 b hb;have:=hs.1;simp;omega) ((hA a₁).put (.inr (.inr rfl)) _ af)) ?_
   have M:∀(d:Option Code) (C:World),AO (fun b=>O b∨b=D∨b=l) (Wa.putObj l (.loop {j .ready none with state:=.busy})) C->
     (Instr.endRound l d).run P C=.ok (.bool d.isNone) (C.putObj l (.loop (j (if d.isNone then .ready else .done) d)))∧
     (C.putObj l (.loop (j (if d.isNone then .ready else .done) d))).heap[l]?=some (.loop (j (if d.isNone then .ready else .done) d))∧
     (C.putObj l (.loop (j (if d.isNone then .ready else .done) d))).heap[D]?=some (.deferred (some []))∧
     z.heap.size<=(C.putObj l (.loop (j (if d.isNone then .ready else .done) d))).heap.size∧
     AO O W (C.putObj l (.loop (j (if d.isNone then .ready else .done) d))):=fun d C m=>by
    have ab:=(m.2 l (.inr (.inr rfl))).trans a0
    have hr:=run_endRound (P:=P) d ab
    rw[o] at hr ⊢
    have z1:=hs.1
    have z3:Wa.heap.size<=C.heap.size:=by have:=m.1;simpa using this
    refine ⟨hr,World.putObj_heap_same (yd.1 ab).1,(World.putObj_heap_other (by omega)).trans ((m.2 D (.inr (.inl rfl))).trans a6),by simp;omega,by simp;omega,fun b hb=>?_⟩
    have N:b≠l:=fun e=>by have:=q b hb;have:=B b;subst e;grind
    rw[World.putObj_heap_other N,m.2 b (.inl hb),World.putObj_heap_other N,hs.2 b (.inl hb)]
   rintro e a3 C F
   cases e with
   |normal=>
    obtain ⟨m,u⟩:=F
    obtain ⟨hr,g1,L,S,X⟩:=M none C m
    exact ⟨_,_,hr,.inl ⟨rfl,⟨hJ.put (.inr (.inr rfl)) _ u,g1,L,q,S⟩,X⟩⟩
   |ret=>
    obtain ⟨m,u⟩:=F
    obtain ⟨hr,g1,L,S,X⟩:=M (some .ret) C m
    exact ⟨_,_,hr,.inr (.inl ⟨rfl,⟨.ret,(I .ret).put (s:=()) (.inr (.inr rfl)) _ u,g1,L,q,S⟩,X⟩)⟩
   |exit id=>
    obtain ⟨m,u⟩:=F
    obtain ⟨hr,g1,L,S,X⟩:=M (some (.exit id)) C m
    exact ⟨_,_,hr,.inr (.inl ⟨rfl,⟨.exit id,(I (.exit id)).put (s:=()) (.inr (.inr rfl)) _ u,g1,L,q,S⟩,X⟩)⟩
   |goto t=>
    obtain ⟨m,u⟩:=F
    obtain ⟨hr,g1,L,S,X⟩:=M (some (.goto t)) C m
    exact ⟨_,_,hr,.inr (.inl ⟨rfl,⟨.goto t,(I (.goto t)).put (s:=()) (.inr (.inr rfl)) _ u,g1,L,q,S⟩,X⟩)⟩
   |panic y=>
    obtain ⟨hd,m,u⟩:=F
    have z1:=hs.1
    have z3:Wa.heap.size<=C.heap.size:=by have:=m.1;simpa using this
    refine ⟨hd,.inr (.inr ⟨y,rfl,⟨u,(m.2 D (.inr (.inl rfl))).trans a6,q,by omega⟩,by omega,fun b hb=>?_⟩)⟩
    have N:b≠l:=fun e=>by have:=q b hb;have:=B b;subst e;grind
    rw[m.2 b (.inl hb),World.putObj_heap_other N,hs.2 b (.inl hb)]
   |outgrown=>exact F.elim
  |exit id=>exact F.elim
  |goto t=>exact F.elim
  |ret=>exact F.elim
  |panic y=>exact F.elim
  |outgrown=>exact F.elim
 ·
  rintro e W2 (⟨⟨v,rfl⟩,(⟨Z,O,h1,h2,h3,q,h5⟩|⟨O,c,h1,h2,h3,q,h5⟩)⟩|⟨y,rfl,O,h1,h2,q,h5⟩)
  ·exact ⟨none,_,by have:=run_endLoop (P:=P) h2 (by rw[o];simp);rw[o] at this;exact this,Y Z D _ _ (yf _) (.inr (.inl rfl)) (hJ.put (.inr (.inr rfl)) _ h1) ((World.putObj_heap_other (by omega)).trans h3)⟩
  ·exact ⟨some c,_,by have:=run_endLoop (P:=P) h2 (by rw[o];simp);rw[o] at this;exact this,U D c _ _ (yf _) (.inr (.inl rfl)) ((I c).put (s:=()) (.inr (.inr rfl)) _ h1) ((World.putObj_heap_other (by omega)).trans h3)⟩
  ·exact R D y _ W2 (yf _) (.inr (.inl rfl)) h1 h2
end Go.Proofs.YtjofgpfocadomaaGreatDoor
namespace Go.Proofs
open Go.Shelf
def Tryz.lays137_ren:Go.Shelf.Ren:=⟨fun|137=>105|217=>107|266=>111|n=>n,fun|9=>9|5=>5|3=>3|n=>n,fun|n=>n⟩
theorem Tryz.lays137:Go.Proofs.Lays.n137 Tryz.prog Tryz.lays137_ren:={
 mixed:=by kernel_rfl
 f137:=Tryz.func105.trans (congrArg some (by kernel_rfl))
 f217:=Tryz.func107.trans (congrArg some (by kernel_rfl))
 f266:=Tryz.func111.trans (congrArg some (by kernel_rfl))
 t3:=Tryz.underlying3
 a3:=Tryz.isAgg3
 z3:=Tryz.sizeOf3
 v3:=Tryz.zeroValue3
 t5:=Tryz.underlying5
 a5:=Tryz.isAgg5
 z5:=Tryz.sizeOf5
 v5:=Tryz.zeroValue5
 t9:=Tryz.underlying9
 a9:=Tryz.isAgg9
 z9:=Tryz.sizeOf9
 v9:=Tryz.zeroValue9}
open Go.RowKit in
theorem Tryz.strings_IndexByte(s:ByteArray)(c:Int)(w:World):
  Calls Tryz.prog 105 #[.string s,.int .u8 c] w fun e w'=>e=.returned (.int .i64 (Lib.indexByte s.data.toList c.toNat.toUInt8))∧w'=w:=Any.strings_IndexByte Tryz.lays137 s c w
def Tryz.lays144_ren:Go.Shelf.Ren:=⟨fun|144=>81|143=>100|219=>106|217=>107|225=>108|224=>109|267=>110|266=>111|314=>112|n=>n,fun|9=>9|4=>4|3=>3|5=>5|46=>73|146=>194|51=>193|n=>n,fun|1=>6|n=>n⟩
theorem Tryz.lays144:Go.Proofs.Lays.n144 Tryz.prog Tryz.lays144_ren:={
 mixed:=by kernel_rfl
 f143:=Tryz.func100.trans (congrArg some (by kernel_rfl))
 f144:=Tryz.func81.trans (congrArg some (by kernel_rfl))
 f217:=Tryz.func107.trans (congrArg some (by kernel_rfl))
 f219:=Tryz.func106.trans (congrArg some (by kernel_rfl))
 f224:=Tryz.func109.trans (congrArg some (by kernel_rfl))
 f225:=Tryz.func108.trans (congrArg some (by kernel_rfl))
 f266:=Tryz.func111.trans (congrArg some (by kernel_rfl))
 f267:=Tryz.func110.trans (congrArg some (by kernel_rfl))
 f314:=Tryz.func112.trans (congrArg some (by kernel_rfl))
 t3:=Tryz.underlying3
 a3:=Tryz.isAgg3
 z3:=Tryz.sizeOf3
 v3:=Tryz.zeroValue3
 t4:=Tryz.underlying4
 a4:=Tryz.isAgg4
 z4:=Tryz.sizeOf4
 v4:=Tryz.zeroValue4
 t5:=Tryz.underlying5
 a5:=Tryz.isAgg5
 z5:=Tryz.sizeOf5
 v5:=Tryz.zeroValue5
 t9:=Tryz.underlying9
 a9:=Tryz.isAgg9
 z9:=Tryz.sizeOf9
 v9:=Tryz.zeroValue9
 t46:=Tryz.underlying73
 a46:=Tryz.isAgg73
 z46:=Tryz.sizeOf73
 v46:=Tryz.zeroValue73
 t51:=Tryz.underlying193
 a51:=Tryz.isAgg193
 z51:=Tryz.sizeOf193
 v51:=Tryz.zeroValue193
 t146:=Tryz.underlying194
 a146:=Tryz.isAgg194
 z146:=Tryz.sizeOf194
 v146:=Tryz.zeroValue194
 g1:=by kernel_rfl}
open Go.RowKit Go.Lib in
theorem Tryz.strings_Contains(s sub:ByteArray)(m:Int)(w:World)(hs:s.size < 4294967281)(hm:w.cell? ⟨6,0,none⟩=some (.int .i64 m)):
  Calls Tryz.prog 81 #[.string s,.string sub] w fun e w'=>e=.returned (.bool (Lib.contains s.data.toList sub.data.toList))∧w'=w:=Any.strings_Contains Tryz.lays144 s sub m w hs hm
def Tryz.laysM144_ren:Go.Shelf.Ren:=⟨fun|144=>81|143=>100|219=>106|217=>107|225=>108|224=>109|267=>110|266=>111|314=>112|n=>n,fun|9=>9|4=>4|3=>3|5=>5|46=>73|146=>194|51=>193|n=>n,fun|1=>6|n=>n⟩
theorem Tryz.laysM144:Go.Proofs.LaysM.n144 Tryz.prog Tryz.laysM144_ren:={
 mixed:=by kernel_rfl
 f143:=Tryz.func100.trans (congrArg some (by kernel_rfl))
 f144:=Tryz.func81.trans (congrArg some (by kernel_rfl))
 f217:=Tryz.func107.trans (congrArg some (by kernel_rfl))
 f219:=Tryz.func106.trans (congrArg some (by kernel_rfl))
 f224:=Tryz.func109.trans (congrArg some (by kernel_rfl))
 f225:=Tryz.func108.trans (congrArg some (by kernel_rfl))
 f266:=Tryz.func111.trans (congrArg some (by kernel_rfl))
 f267:=Tryz.func110.trans (congrArg some (by kernel_rfl))
 f314:=Tryz.func112.trans (congrArg some (by kernel_rfl))
 t3:=Tryz.underlying3
 a3:=Tryz.isAgg3
 z3:=Tryz.sizeOf3
 v3:=Tryz.zeroValue3
 t4:=Tryz.underlying4
 a4:=Tryz.isAgg4
 z4:=Tryz.sizeOf4
 v4:=Tryz.zeroValue4
 t5:=Tryz.underlying5
 a5:=Tryz.isAgg5
 z5:=Tryz.sizeOf5
 v5:=Tryz.zeroValue5
 t9:=Tryz.underlying9
 a9:=Tryz.isAgg9
 z9:=Tryz.sizeOf9
 v9:=Tryz.zeroValue9
 t46:=Tryz.underlying73
 a46:=Tryz.isAgg73
 z46:=Tryz.sizeOf73
 v46:=Tryz.zeroValue73
 t51:=Tryz.underlying193
 a51:=Tryz.isAgg193
 z51:=Tryz.sizeOf193
 v51:=Tryz.zeroValue193
 t146:=Tryz.underlying194
 a146:=Tryz.isAgg194
 z146:=Tryz.sizeOf194
 v146:=Tryz.zeroValue194
 g1:=by kernel_rfl
 i3:=by kernel_rfl
 i4:=by kernel_rfl
 i5:=by kernel_rfl
 i9:=by kernel_rfl
 i46:=by kernel_rfl
 i51:=by kernel_rfl
 i146:=by kernel_rfl
 m1:=by kernel_rfl
 s1_3:=fun w h=>Go.Proofs.cell_of_shapedOpen_int (zero:=#[.int .i64 0]) (t:=3) h (of_decide_eq_true (by kernel_rfl)) (by kernel_rfl) rfl (by kernel_rfl) (by kernel_rfl) Tryz.underlying3}
end Go.Proofs
namespace Go.Proofs.YtjofgpfocadomaaGreatDoor
open Go.RowKit
theorem Is{k:IntKind}{a b:Int}(h:a=b):Ending.returned (.int k a)=.returned (.int k b):=by rw[h]
theorem AK{a b:Bool}(h:a=b):Ending.returned (.bool a)=.returned (.bool b):=by rw[h]
theorem Cu(e:Int)(w:World):Calls Tryz.prog 69 #[.bool true,.int .i64 e] w fun x w'=>x=.returned (.tuple #[])∧w'=w:=by
 go_enter Tryz.func69,Tryz.ntmps69
 go_wp2
 go_end0
 exact ⟨rfl,rfl⟩
theorem Cn(e:Int)(w:World):Calls Tryz.prog 69 #[.bool false,.int .i64 e] w fun x w'=>x=.panicked [{v:=.iface 40 (.int .i64 e),recovered:=false}]∧w'=w:=by
 go_enter Tryz.func69,Tryz.ntmps69
 go_wp2
 exact ⟨rfl,rfl,rfl⟩
theorem QL:∀(e:Ex) {N:NP} {w:World} {cs:LV},AH N w e cs->(∀b,N b->b < w.heap.size)->AE e<=1000000->
  Calls Tryz.prog 79 #[.agg cs.toArray] w fun x w'=>x=.returned (.int .i64 (AE e))∧Below w.heap.size w w':=by
 refine IQ fun op nn u rn ri args ih=>?_
 intro N w cs h hN hd
 rw[AH] at h
 obtain ⟨a,cap,rfl,Q,hr,j⟩:=h
 have q:=yb j
 have y:=yb hN
 have O:=yb ih
 have H:AE (.mk op nn u rn ri args)=B6 args:=rfl
 rw[H] at hd ⊢
 have G:=yb hd
 generalize K:args.length=m at Q ⊢
 have I:=yb K
 clear j hN ih H hd K
 go_enter Tryz.func79,Tryz.ntmps79
 go_wp2
 go_loopw [2,8] (fun T F wr=>∃i:Nat,T=iV (B6 (args.take i))∧F=iV i∧i<=m∧Hid (Below w.heap.size w wr)) (fun _ F _=>m - (intOf F).toNat)
 case atStart=>exact ⟨0,by simp[B6],rfl,yK _,yb ((yg _ _).alloc (yf _) _)⟩
 case round=>
  obtain ⟨i,rfl,rfl,hi,t⟩:=hrel
  by_cases A:i < m
  ·have f:i < args.length:=by rw[I.o];exact A
   obtain ⟨b,o,cs,rfl,E,l,g⟩:=DV q.o i f
   have v:=AH.same (fun b h=>h) (Ed y.o t.o) g
   have c:=A0 l (t.o.block b (y.o b E))
   obtain ⟨M,s,rfl,_⟩:=g.cells
   rw[yy] at c
   obtain ⟨c0,c1,c2,c3,c4,c5⟩:=Br c
   have p:=OY f
   have d:=Jg f
   have z:=IS args (i+1)
   have L:=yb (fun (W:World) (J:Below w.heap.size w W)=>O.o args[i] (yM f) (AH.same (fun b h=>h) (Ed y.o J) g) (fun b h=>yv (y.o b h) J.size) (by have:=G.o;omega))
   generalize args[i]=x at*
   have k:=yb (t.o.alloc t.o.size (.cells #[iV x.op,iV x.n,iV x.u,.string x.rn,iV x.ri,.slice M x.args.length s] 26))
   have S:(i:Int) < (m:Int):=by omega
   generalize hdx:AE x=R at p d L ⊢
   have U:=yb hdx
   generalize C:B6 (args.take i)=P at d ⊢
   have D:=yb d
   have h1:(R:Int)<=1000000:=by have:=G.o;omega
   have h2:(P:Int)<=1000000:=by have:=G.o;omega
   clear g v l c hdx C p d z
   go_wp2_with fail
   refine (L.o _ k.o).mono ?_
   rintro e w2 ⟨rfl,r⟩
   have B:=yb (k.o.trans (r.mono k.o.size))
   clear r
   go_wp2
   refine ⟨⟨i+1,?_,by go_num,by omega,B⟩,by simp[intOf];omega⟩
   rw[D.o]
   congr 1
   first|(split<;>omega)|omega
  ·obtain rfl:i=m:=by omega
   go_wp2
   go_ret
   refine ⟨Is (by rw[<-I.o,yT]),t.o⟩
def CM(c:UInt8):Bool:=(97<=c.toNat&&c.toNat<=122)||(65<=c.toNat&&c.toNat<=90)
def IT(c:UInt8):Bool:=48<=c.toNat&&c.toNat<=57
def K3(c:UInt8):Bool:=c.toNat==32||c.toNat==9||c.toNat==10||c.toNat==13
def Fo(c:UInt8):Bool:=CM c||IT c||c.toNat==95
def S6:List UInt8:=[123,125,40,41,59,44,61,58,46,60,62,33,43,45,42,47]
def Q8(c:UInt8):Bool:=S6.contains c
def Cr(c:UInt8):Int:=if CM c then 2 else if IT c then 3 else if c.toNat==95 then 5 else if K3 c then 1 else if Q8 c then 4 else 0
theorem Ms{c:UInt8}(h:(97<=c.toNat∧c.toNat<=122)∨(65<=c.toNat∧c.toNat<=90)):Cr c=2:=by
 have:CM c=true:=by simp[CM];omega
 simp[Cr,this]
theorem nl{c:UInt8}(h:¬ ((97<=c.toNat∧c.toNat<=122)∨(65<=c.toNat∧c.toNat<=90))):CM c=false:=by
 rw[yn];simp[CM];omega
theorem Nj{c:UInt8}(h:48<=c.toNat∧c.toNat<=57):Cr c=3:=by
 have:IT c=true:=by simp[IT];omega
 simp[Cr,this,nl (c:=c) (by omega)]
theorem nd{c:UInt8}(h:¬ (48<=c.toNat∧c.toNat<=57)):IT c=false:=by
 rw[yn];simp[IT];omega
theorem OZ{c:UInt8}(h:c.toNat=95):Cr c=5:=by
 simp[Cr,nd (c:=c) (by omega),nl (c:=c) (by omega),h]
theorem Nk{c:UInt8}(h:c.toNat=32∨c.toNat=9∨c.toNat=10∨c.toNat=13):Cr c=1:=by
 have:K3 c=true:=by simp[K3];omega
 have h2:(c.toNat==95)=false:=by rw[yn];simp;omega
 simp[Cr,nd (c:=c) (by omega),nl (c:=c) (by omega),h2,this]
theorem P0{c:UInt8}(h:¬ ((97<=c.toNat∧c.toNat<=122)∨(65<=c.toNat∧c.toNat<=90)))(h1:¬ (48<=c.toNat∧c.toNat<=57))(h2:¬ c.toNat=95)
 (h3:¬ (c.toNat=32∨c.toNat=9∨c.toNat=10∨c.toNat=13)):Cr c=if Q8 c then 4 else 0:=by
 have a:K3 c=false:=by rw[yn];simp[K3];omega
 simp[Cr,nd h1,nl h,h2,a]
theorem S7(c:UInt8):(decide (0<=Lib.indexByte S6 ((c.toNat:Int)).toNat.toUInt8))=Q8 c:=by
 have:((c.toNat:Int)).toNat.toUInt8=c:=by simp
 rw[this];exact (Lib.contains_iff_indexByte S6 c).symm
theorem P1(c:UInt8)(w:World):Calls Tryz.prog 105 #[.string {data:=#[123,125,40,41,59,44,61,58,46,60,62,33,43,45,42,47]},.int .u8 (c.toNat:Int)] w fun e w'=>∃n:Int,e=.returned (.int .i64 n)∧decide (0<=n)=Q8 c∧w=w':=
 (Tryz.strings_IndexByte _ _ w).mono fun _ _ h=>⟨_,h.1,S7 c,h.2.symm⟩
theorem Hh(c:UInt8)(w:World):
  Calls Tryz.prog 99 #[.int .u8 (c.toNat:Int)] w fun e w'=>e=.returned (.int .i64 (Cr c))∧w=w':=by
 generalize hN:Cr c=N
 have d:=yb hN;clear hN
 go_enter Tryz.func99,Tryz.ntmps99
 go_wp2_with (first|(go_at_call 105;refine (P1 _ _).mono ?_;rintro e w' ⟨n,rfl,a,rfl⟩;have b:=yb a;clear a))
 all_goals
  go_ret
  refine ⟨Is ?_,rfl⟩
  rw[<-d.o]
  try simp only[qr,beq_eq_false_iff_ne,ne_eq] at*
  first
  |exact (Ms (by omega)).symm
  |exact (Nj (by omega)).symm
  |exact (OZ (by omega)).symm
  |exact (Nk (by omega)).symm
  |(rw[P0 (by omega) (by omega) (by omega) (by omega),<-b.o];simp[*])
def FO:List UInt8->Bool
 |[]=>false
 |c::r=>decide ((c::r).length<=32)&&CM c&&(c::r).all Fo
theorem QM(s:ByteArray)(k:Nat)(h:k < s.size):s.data.toList.take (k+1)=s.data.toList.take k++[s[k]]:=by
 rw[yJ (by simpa using h)];rfl
theorem FE(s:ByteArray):s.data.toList.length=s.size:=by simp
theorem GP{s:ByteArray}(h:0 < s.size):FO s.data.toList=(decide (s.size<=32)&&CM (s[0])&&s.data.toList.all Fo):=by
 obtain ⟨⟨l⟩⟩:=s
 cases l with
 |nil=>simp[ByteArray.size] at h
 |cons c r=>rfl
theorem Nl{s:ByteArray}(h:¬ 0 < s.size):FO s.data.toList=false:=by
 obtain ⟨⟨l⟩⟩:=s
 cases l with
 |nil=>rfl
 |cons c r=>simp[ByteArray.size] at h
theorem P2{s:ByteArray}(h0:0 < s.size)(h:¬ s.size<=32):FO s.data.toList=false:=by rw[GP h0];simp[h]
theorem Nn{s:ByteArray}(h0:0 < s.size)(h:CM s[0]=false):FO s.data.toList=false:=by rw[GP h0];simp[h]
theorem P3{s:ByteArray}{k:Nat}(a:k < s.size)(h:Fo s[k]=false):FO s.data.toList=false:=by
 rw[GP (by omega)]
 have:s.data.toList.all Fo=false:=by
  rw[xq]
  exact ⟨s[k],by rw[Array.mem_toList_iff];exact Array.getElem_mem _,by simp[h]⟩
 rw[this];simp
theorem QN{s:ByteArray}(h0:0 < s.size)(a:s.size<=32)(h:CM s[0]=true)(b:(s.data.toList.take s.size).all Fo=true):FO s.data.toList=true:=by
 rw[xW (by simp)] at b
 rw[GP h0,b,h];simp[a]
theorem S8{s:ByteArray}{k:Nat}(b:k < s.size)(a:(s.data.toList.take k).all Fo=true)(h:Fo s[k]=true):(s.data.toList.take (k+1)).all Fo=true:=by
 rw[QM s k b,qk,a];simp[h]
theorem S9(P:UInt8->Bool)(h:(List.range 256).all (fun n=>P n.toUInt8)=true)(c:UInt8):P c=true:=by
 have:=yR.1 h c.toNat (by rw[zg];exact c.toNat_lt)
 simpa using this
theorem Q9(c:UInt8):(Cr c==2)=CM c:=by
 have:=S9 (fun c=>(Cr c==2)==CM c) (by decide+kernel) c
 simpa using this
theorem JN(c:UInt8):(Cr c==2||Cr c==3||Cr c==5)=Fo c:=by
 have:=S9 (fun c=>(Cr c==2||Cr c==3||Cr c==5)==Fo c) (by decide+kernel) c
 simpa using this
theorem QO{s:ByteArray}(h:0 < s.size):s.toList.isEmpty=false:=by
 rw[zP,List.isEmpty_eq_false_iff];intro e;have:=FE s;rw[e] at this;simp at this;omega
theorem Sa{s:ByteArray}(h:¬ 0 < s.size):s.toList.isEmpty=true:=by
 rw[zP,List.isEmpty_iff,<-zl,FE];omega
theorem Sb(c:UInt8)(n:Int)(h:Cr c=n)(w:World):
  Calls Tryz.prog 99 #[.int .u8 (c.toNat:Int)] w fun e w'=>e=.returned (.int .i64 n)∧w=w':=by
 rw[<-h];exact Hh c w
theorem QP{c:UInt8}(h:CM c=true):Cr c=2:=by
 have:=Q9 c
 rw[h] at this
 simpa using this
theorem K4(c:UInt8)(h:CM c=false)(w:World):
  Calls Tryz.prog 99 #[.int .u8 (c.toNat:Int)] w fun e w'=>∃n:Int,(n !=2)=true∧e=.returned (.int .i64 n)∧w=w':=
 (Hh c w).mono fun _ _ a=>⟨_,by have:=Q9 c;rw[h] at this;simpa using this,a⟩
theorem P4(c:UInt8)(h:Fo c=true)(w:World):
  Calls Tryz.prog 99 #[.int .u8 (c.toNat:Int)] w fun e w'=>∃n:Int,(n=2∨n=3∨n=5)∧e=.returned (.int .i64 n)∧w=w':=
 (Hh c w).mono fun _ _ a=>⟨_,by have:=JN c;rw[h] at this;simpa[or_assoc] using this,a⟩
theorem Mt(c:UInt8)(h:Fo c=false)(w:World):
  Calls Tryz.prog 99 #[.int .u8 (c.toNat:Int)] w fun e w'=>∃n:Int,(n !=2)=true∧(n !=3)=true∧(n !=5)=true∧e=.returned (.int .i64 n)∧w=w':=
 (Hh c w).mono fun _ _ a=>⟨_,by have:=JN c;rw[h] at this;simp at this;simp[this],by have:=JN c;rw[h] at this;simp at this;simp[this],by have:=JN c;rw[h] at this;simp at this;simp[this],a⟩
theorem Sc(s:ByteArray)(w:World)(hs:s.size<=maxLen):
  Calls Tryz.prog 80 #[.string s] w fun e w'=>e=.returned (.bool (FO s.data.toList))∧w=w':=by
 unfold maxLen at hs
 generalize hN:FO s.data.toList=N
 have f:=yb hN;clear hN
 by_cases h0:0 < s.size
 ·have j:=QO h0
  by_cases a:s.size<=32
  ·have n:decide (32 < (s.size:Int))=false:=by simp;omega
   by_cases g:CM s[0]=true
   ·have d:=yb g;clear g
    go_enter Tryz.func80,Tryz.ntmps80
    go_wp2_with (first|(go_at_call 99;refine (Sb _ 2 (QP d.o) _).mono ?_;rintro e w' ⟨rfl,rfl⟩))
    go_loop [3,4,20] (fun _ _ i=>∃k:Nat,k<=s.size∧i=iV k∧(s.data.toList.take k).all Fo=true) (fun _ _ i=>s.size - (intOf i).toNat)
    case atStart=>exact ⟨0,by omega,rfl,rfl⟩
    case round=>
     obtain ⟨k,q,rfl,m⟩:=hrel
     have l:=yb m;clear m
     by_cases c:k < s.size
     ·by_cases h:Fo s[k]=true
      ·have b:=yb h;clear h
       go_wp2_with (first|(go_at_call 99;refine (P4 _ b.o _).mono ?_;rintro e w' ⟨n1,(rfl|rfl|rfl),rfl,rfl⟩))
       all_goals exact ⟨⟨k+1,by omega,by go_num,S8 c l.o b.o⟩,by simp[intOf];omega⟩
      ·have b:=yb (yn.2 h);clear h
       go_wp2_with (first|(go_at_call 99;refine (Mt _ b.o _).mono ?_;rintro e w' ⟨n1,c2,c3,c5,rfl,rfl⟩))
       go_ret
       exact ⟨AK (by rw[<-f.o,P3 c b.o]),rfl⟩
     ·go_wp2
      go_ret
      obtain rfl:k=s.size:=by omega
      exact ⟨AK (by rw[<-f.o,QN h0 a d.o l.o]),rfl⟩
   ·have d:=yb (yn.2 g);clear g
    go_enter Tryz.func80,Tryz.ntmps80
    go_wp2_with (first|(go_at_call 99;refine (K4 _ d.o _).mono ?_;rintro e w' ⟨n0,p,rfl,rfl⟩))
    go_ret
    exact ⟨AK (by rw[<-f.o,Nn h0 d.o]),rfl⟩
  ·go_enter Tryz.func80,Tryz.ntmps80
   go_wp2_with fail
   go_ret
   exact ⟨AK (by rw[<-f.o,P2 h0 a]),rfl⟩
 ·have j:=Sa h0
  go_enter Tryz.func80,Tryz.ntmps80
  go_wp2_with fail
  go_ret
  exact ⟨AK (by rw[<-f.o,Nl h0]),rfl⟩
end Go.Proofs.YtjofgpfocadomaaGreatDoor
namespace Go.Proofs.YtjofgpfocadomaaGreatDoor
open Go.RowKit
attribute [local go_sem] Oper.semAt_some
def JO(J:Nat->NP->World->Prop)(Jx:NP->World->Prop)(Jp:List PanicEntry->NP->World->Prop)(O:NP)(k:Nat)(W:World)(e:Ending)(W':World):Prop:=
 (e=.returned (.bool true)∧J k O W'∧AO O W W')∨(e=.returned (.bool false)∧Jx O W'∧AO O W W')∨∃a,e=.panicked a∧Jp a O W'∧AO O W W'
theorem CZ{O:NP}{W W':World}(h:AO O W W'){b o:Nat}(hb:O b){v:Value}(a:W.cell? ⟨b,o,none⟩=some v):W'.cell? ⟨b,o,none⟩=some v:=by
 unfold World.cell? at a ⊢
 rw[h.2 b hb];exact a
theorem TH(n:Nat)(R:1<=n)(l Bc g:Nat)(lt:Int)(ps:LV)(f:Nat)(O:NP)(J:Nat->NP->World->Prop)(Jx:NP->World->Prop)(Jp:List PanicEntry->NP->World->Prop)(W:World)
 (B:O Bc)(C:O g)(r:ps.length<=100)(D:W.cell? ⟨Bc,0,none⟩=some (.func (.yield l) #[] #[]))(k:∀i (h:i < ps.length),W.cell? ⟨g,i,none⟩=some ps[i])(a:∀i (h:i < ps.length),∃p,ps[i]=.pointer (some p))
 (y:∀i (h:i < ps.length) W1,J (f+i) O W1->AO O W W1->YieldAt Fence.wide (n - 1) Tryz.prog l #[ps[i],.int .i64 lt] W1 (JO J Jx Jp O (f+i+1) W1))
 (h0:J f O W):
  CallsIn Fence.wide n Tryz.prog 93 #[.int .i64 lt,.slice (some ⟨g,0,none⟩) ps.length ps.length,.pointer (some ⟨Bc,0,none⟩)] W (JO J Jx Jp O (f+ps.length) W):=by
 have Q:=yb D
 have v:=yb k
 have L:=yb y
 have P:=yb h0
 have H:=yb B
 have t:=yb C
 have j:=yb a
 generalize hN:ps.length=N at r ⊢
 have I:=yb hN
 clear D k y h0 hN B C a
 refine callsIn_of_wp Tryz.func93 rfl trivial ?_ rfl
 simp only[Tryz.ntmps93,yq,yx,yH,Nat.reduceAdd,Nat.reduceSub,zy,zA,zQ,zJ,yS,yP]
 gi_wp2
 gi_loopw [10] (fun w wr=>∃i:Nat,i<=N∧w=iV i∧Hid (J (f+i) O wr)∧Hid (AO O W wr)) (fun w _=>N - (intOf w).toNat)
 case atStart=>exact ⟨0,yK _,rfl,P,yb (AO.refl _ _)⟩
 case round=>
  obtain ⟨i,hi,rfl,A,d⟩:=hrel
  by_cases u:i < N
  ·have b:i < ps.length:=by rw[I.o];exact u
   have c0:=CZ d.o H.o Q.o
   have c1:=CZ d.o t.o (v.o i b)
   obtain ⟨p,m⟩:=j.o i b
   obtain ⟨fn,tmps,assign,body,G,z⟩:=L.o i b wr A.o d.o
   rw[m] at c1 G
   have F:=yb z
   have K:(i:Int) < (N:Int):=by omega
   clear z m
   gi_wp2
   refine F.o.mono ?_
   rintro e S (⟨rfl,x,hs⟩|⟨rfl,E,hs⟩|⟨M,rfl,m,hs⟩)
   ·have q:=yb x
    have c:=yb (d.o.trans hs)
    clear x hs
    gi_wp2
    exact ⟨⟨i+1,by omega,by go_num,q,c⟩,by simp[intOf];omega⟩
   ·have s:=yb E
    have c:=yb (d.o.trans hs)
    clear E hs
    gi_wp2
    go_ret
    exact .inr (.inl ⟨rfl,s.o,c.o⟩)
   ·exact ⟨rfl,.inr (.inr ⟨M,rfl,m,d.o.trans hs⟩)⟩
  ·obtain rfl:i=N:=by omega
   gi_wp2
   go_ret
   exact .inl ⟨rfl,A.o,d.o⟩
end Go.Proofs.YtjofgpfocadomaaGreatDoor
namespace Go.Proofs.YtjofgpfocadomaaGreatDoor
open Go.RowKit
structure Au where
 a:Option Addr
 n:Nat
 c:Nat
def Au.v(h:Au):Value:=.slice h.a h.n h.c
def Au.at(h:Au)(sz i c:Nat):Addr:=match h.a with
 |some ⟨b,o,_⟩=>⟨b,o+i*sz+c,none⟩
 |none=>⟨0,0,none⟩
def Au.ptr(h:Au)(sz i a:Nat):Value:=.pointer (some (h.at sz i a))
def Au.ok(h:Au):Prop:=h.n<=140737488355328∧(0 < h.n->∃b o,h.a=some ⟨b,o,none⟩)
theorem Au.ok.get{h:Au}(e:h.ok){i:Nat}(hi:i < h.n):∃b o,h.a=some ⟨b,o,none⟩∧∀sz i c,h.at sz i c=⟨b,o+i*sz+c,none⟩:=by
 obtain ⟨b,o,d⟩:=e.2 (by omega)
 exact ⟨b,o,d,fun sz i c=>by unfold Au.at;rw[d]⟩
structure Bz where
 s:Nat
 lets:Au
 crops:Au
 reaches:Au
 farms:Au
 rots:Au
 rights:Au
 duties:Au
 turns:List Au
def one(p:Value)(lt:Int):List (Array Value):=[#[p,.int .i64 lt]]
def Am(ps:LV):List (Array Value):=ps.map fun p=>#[p,.int .i64 0]
def Ai(s:Nat):LV:=[.pointer (some ⟨s,1,none⟩),.pointer (some ⟨s,7,none⟩),.pointer (some ⟨s,13,none⟩)]
def JP(h:Au)(i:Nat):LV:=[h.ptr 51 i 3,h.ptr 51 i 9,h.ptr 51 i 15,h.ptr 51 i 21,h.ptr 51 i 27,h.ptr 51 i 33,h.ptr 51 i 39,h.ptr 51 i 45]
def Ea(h:Au)(i:Nat):LV:=[h.ptr 23 i 4,h.ptr 23 i 10,h.ptr 23 i 16]
def JQ(h:Au)(i:Nat):LV:=[h.ptr 37 i 7,h.ptr 37 i 13,h.ptr 37 i 19,h.ptr 37 i 25,h.ptr 37 i 31]
def A2(L:Bz)(i:Nat):Au:=L.turns.getD i ⟨none,0,0⟩
def An(L:Bz)(n:Nat):List (Array Value):=(List.range n).flatMap fun i=> [#[L.lets.ptr 7 i 1,.int .i64 (1+(i:Int))]]
def Aj(L:Bz)(n:Nat):List (Array Value):=(List.range n).flatMap fun i=>Am [L.crops.ptr 7 i 1]
def Ac(L:Bz)(n:Nat):List (Array Value):=(List.range n).flatMap fun i=>Am (JP L.reaches i)
def Ao(L:Bz)(n:Nat):List (Array Value):=(List.range n).flatMap fun i=>Am [L.farms.ptr 12 i 4]
def BH(h:Au)(n:Nat):List (Array Value):=(List.range n).flatMap fun k=>Am [h.ptr 8 k 2]
def AY(L:Bz)(n:Nat):List (Array Value):=(List.range n).flatMap fun i=>Am (Ea L.rots i)++BH (A2 L i) (A2 L i).n
def AJ(L:Bz)(n:Nat):List (Array Value):=(List.range n).flatMap fun i=>Am (JQ L.rights i)
def Bo(L:Bz)(n:Nat):List (Array Value):=(List.range n).flatMap fun i=>Am [L.duties.ptr 11 i 5]
def BK(L:Bz):List (Array Value):=
 Am (Ai L.s)++(An L L.lets.n++(Aj L L.crops.n++(Ac L L.reaches.n++(Ao L L.farms.n++(AY L L.rots.n++(AJ L L.rights.n++Bo L L.duties.n))))))
structure It (L:Bz) (Bs:Nat) (W:World):Prop where
 box:W.cell? ⟨Bs,0,none⟩=some (.pointer (some ⟨L.s,0,none⟩))
 lets:W.cell? ⟨L.s,19,none⟩=some L.lets.v
 crops:W.cell? ⟨L.s,20,none⟩=some L.crops.v
 reaches:W.cell? ⟨L.s,21,none⟩=some L.reaches.v
 farms:W.cell? ⟨L.s,22,none⟩=some L.farms.v
 rots:W.cell? ⟨L.s,23,none⟩=some L.rots.v
 rights:W.cell? ⟨L.s,24,none⟩=some L.rights.v
 duties:W.cell? ⟨L.s,25,none⟩=some L.duties.v
 turns:∀i,i < L.rots.n->W.cell? (L.rots.at 23 i 22)=some (A2 L i).v
structure Bz.Ok (L:Bz):Prop where
 lets:L.lets.ok
 crops:L.crops.ok
 reaches:L.reaches.ok
 farms:L.farms.ok
 rots:L.rots.ok
 rights:L.rights.ok
 duties:L.duties.ok
 turns:∀i,i < L.rots.n->(A2 L i).ok
theorem BA{α:Type}(f:Nat->List α){n i:Nat}(h:i < n):∃post,(List.range n).flatMap f=(List.range i).flatMap f++(f i++post):=by
 obtain ⟨m,rfl⟩:∃m,n=(i+1)+m:=⟨n - (i+1),by omega⟩
 rw[List.range_add,zK,List.range_succ,zK]
 exact ⟨_,by simp[yL];rfl⟩
theorem Ak{α:Type}(f:Nat->List α)(i:Nat):(List.range (i+1)).flatMap f=(List.range i).flatMap f++f i:=by
 rw[List.range_succ,zK];simp
structure VE (n l:Nat) (P:Program) (xs:List (Array Value)) (Hd:World->Prop) (J:Nat->(Nat->Prop)->World->Prop) (Jx:(Nat->Prop)->World->Prop) (Jp:List PanicEntry->(Nat->Prop)->World->Prop) (W0:World):Prop where
 stays:Ce J
 staysx:Ce (fun (_:Unit)=>Jx)
 hd:∀k O W,J k O W->Hd W
 hdx:∀O W,Jx O W->Hd W
 round:∀k (hk:k < xs.length) O W1,J k O W1->W0.heap.size<=W1.heap.size->(∀b,O b->W0.heap.size<=b∧b < W1.heap.size)->YieldAt Fence.wide n P l xs[k] W1 (JO J Jx Jp O (k+1) W1)
structure I0 (J:Nat->(Nat->Prop)->World->Prop) (W0:World) (l Bc k:Nat) (O:Nat->Prop) (wr:World):Prop where
 j:J k O wr
 bc:O Bc
 box:wr.cell? ⟨Bc,0,none⟩=some (.func (.yield l) #[] #[])
 size:W0.heap.size<=wr.heap.size
 own:∀b,O b->W0.heap.size<=b∧b < wr.heap.size
section
variable{n l Bc k:Nat}{P:Program}{xs:List (Array Value)}{Hd:World->Prop}{J:Nat->NP->World->Prop}{Jx:NP->World->Prop}{Jp:List PanicEntry->NP->World->Prop}{W0 wr w2:World}{O:NP}
theorem CI{β:Type}{J:β->NP->World->Prop}(h:Ce J){s:β}{O:NP}{W W':World}(d:J s O W)(hb:Below W.heap.size W W'):J s (fun b=>O b∨(W.heap.size<=b∧b < W'.heap.size)) W':=
 h s O W _ W' d hb.size hb.os hb.tape hb.output (fun b _ a=>hb.block b a) (fun _ c=>c.elim .inl (fun h=>.inr h.1))
theorem I0.below(c:VE n l P xs Hd J Jx Jp W0)(h:I0 J W0 l Bc k O wr)(hb:Below wr.heap.size wr w2):I0 J W0 l Bc k (fun b=>O b∨(wr.heap.size<=b∧b < w2.heap.size)) w2:=
 ⟨CI c.stays h.j hb,.inl h.bc,(hb.cell (p:=⟨Bc,0,none⟩) (h.own _ h.bc).2).trans h.box,yu h.size hb.size,fun b a=>by
  rcases a with a|a
  ·have:=h.own b a;have:=hb.size;omega
  ·have:=h.size;omega⟩
def VJ(J:Nat->NP->World->Prop)(Jx:NP->World->Prop)(Jp:List PanicEntry->NP->World->Prop)(W0:World)(l Bc k:Nat)(e:Ending)(W':World):Prop:=
 (∃r:Bool,e=.returned (.bool r)∧((r=true∧∃a,I0 J W0 l Bc k a W')∨(r=false∧∃a,Jx a W')))∨∃b,e=.panicked b∧∃a,Jp b a W'
theorem Dj(r:VE (n - 1) l Tryz.prog xs Hd J Jx Jp W0)(x:1<=n){pre:List (Array Value)}(h:I0 J W0 l Bc pre.length O wr)(lt:Int)(a:Array Value)(N:Nat)(hN:a.size=N)(t:TypeId)(k:∃post,xs=pre++(a.toList.map (fun p=>#[p,.int .i64 lt])++post))(o:N<=100)(d:∀p∈a.toList,∃q,p=.pointer (some q))(g:Nat)(z:g=wr.heap.size):
  Calls Tryz.prog 93 #[.int .i64 lt,.slice (some ⟨g,0,none⟩) N N,.pointer (some ⟨Bc,0,none⟩)] (wr.alloc (.cells a t)) (VJ J Jx Jp W0 l Bc (pre.length+N)):=by
 subst hN z
 have hb:Below wr.heap.size wr (wr.alloc (.cells a t)):=(yg _ _).alloc (yf _) _
 have h2:=h.below r hb
 have c:a.toList.length=a.size:=by simp
 refine z6.1 ((TH n x l Bc wr.heap.size lt a.toList pre.length _ J Jx Jp _ h2.bc (.inr ⟨yf _,by simp⟩) (by rw[c];exact o) h2.box (fun i hi=>?_) (fun i hi=>d _ (yM hi)) (fun i hi s f hs=>?_) h2.j).mono ?_)
 ·have:(wr.alloc (.cells a t)).heap[wr.heap.size]?=some (.cells a t (0,0)):=World.alloc_heap_new _ _
  simp only[World.cell?,this]
  simp[c▸hi]
 ·obtain ⟨post,k⟩:=k
  have u:pre.length+i < xs.length:=by rw[k];simp;simp at hi;omega
  have v:xs[pre.length+i]=#[a.toList[i],iV lt]:=by
   subst k
   rw[xy (by omega)]
   simp only[zW]
   rw[xz (by simpa using hi),zG]
  have:=r.round (pre.length+i) u _ s f (yu h2.size hs.1) (fun b hb=>by have:=h2.own b hb;have:=hs.1;omega)
  rw[v] at this
  exact this
 ·rintro e W' (⟨rfl,f,hs⟩|⟨rfl,m,hs⟩|⟨y,rfl,w,_⟩)
  ·rw[c] at f
   exact .inl ⟨true,rfl,.inl ⟨rfl,_,f,h2.bc,CZ hs h2.bc h2.box,yu h2.size hs.1,fun b hb=>by have:=h2.own b hb;have:=hs.1;omega⟩⟩
  ·exact .inl ⟨false,rfl,.inr ⟨rfl,_,m⟩⟩
  ·exact .inr ⟨y,rfl,_,w⟩
end
structure Rf where
 name:ByteArray
 n:Int
structure Ge where
 name:ByteArray
 value:Ex
structure DK where
 name:ByteArray
 need:Ex
structure AF where
 name:ByteArray
 frm:Rf
 delay:Ex
 cap:Ex
 bank:Ex
 siphon:Ex
 evap0:Ex
 evap1:Ex
 seep0:Ex
 seep1:Ex
structure D4 where
 name:ByteArray
 on:Rf
 river:Bool
 area:Ex
 crop:Rf
structure Cq where
 farm:Rf
 len:Ex
structure BG where
 name:ByteArray
 on:Rf
 rank:Int
 flow:Ex
 frm:Ex
 to:Ex
 turns:List Cq
structure Ba where
 kind:Int
 name:ByteArray
 farm:Rf
 reach:Rf
 rank:Int
 flow:Ex
 frm:Ex
 to:Ex
 every:Ex
 len:Ex
structure De where
 name:ByteArray
 farm:Rf
 reach:Rf
 due:Ex
structure AB where
 name:ByteArray
 season:Ex
 cap:Ex
 start:Ex
 lets:List Ge
 crops:List DK
 reaches:List AF
 farms:List D4
 rots:List BG
 rights:List Ba
 duties:List De
def BL{α:Type}(N:NP)(w:World)(sz:Nat)(P:LV->α->Prop)(h:Au)(l:List α):Prop:=
 h.n=l.length∧l.length<=140737488355328∧∀i (hi:i < l.length),∃b o cs,h.a=some ⟨b,o,none⟩∧N b∧cs.length=sz∧w.rangeAt b (o+i*sz) cs∧P cs l[i]
def AX(r:Rf):LV:=[.string r.name,.int .i64 r.n]
section
variable(N:NP)(w:World)
def K5(cs:LV)(d:Ge):Prop:=d.name.size<=maxLen∧∃c,cs=.string d.name::c∧AH N w d.value c
def I1(cs:LV)(d:DK):Prop:=d.name.size<=maxLen∧∃c,cs=.string d.name::c∧AH N w d.need c
def F0(cs:LV)(d:AF):Prop:=d.name.size<=maxLen∧d.frm.name.size<=maxLen∧∃c0 c1 c2 c3 c4 c5 c6 c7,cs=.string d.name::(AX d.frm++(c0++(c1++(c2++(c3++(c4++(c5++(c6++c7))))))))∧
 AH N w d.delay c0∧AH N w d.cap c1∧AH N w d.bank c2∧AH N w d.siphon c3∧AH N w d.evap0 c4∧AH N w d.evap1 c5∧AH N w d.seep0 c6∧AH N w d.seep1 c7
def I2(cs:LV)(d:D4):Prop:=d.name.size<=maxLen∧d.on.name.size<=maxLen∧d.crop.name.size<=maxLen∧∃c,cs=.string d.name::(AX d.on++(.bool d.river::(c++AX d.crop)))∧AH N w d.area c
def Fp(cs:LV)(d:Cq):Prop:=d.farm.name.size<=maxLen∧∃c,cs=AX d.farm++c∧AH N w d.len c
def GQ(h:Au)(cs:LV)(d:BG):Prop:=d.name.size<=maxLen∧d.on.name.size<=maxLen∧∃c0 c1 c2,cs=.string d.name::(AX d.on++(.int .i64 d.rank::(c0++(c1++(c2++[h.v])))))∧
 AH N w d.flow c0∧AH N w d.frm c1∧AH N w d.to c2∧BL N w 8 (Fp N w) h d.turns
def F1(cs:LV)(d:Ba):Prop:=d.name.size<=maxLen∧d.farm.name.size<=maxLen∧d.reach.name.size<=maxLen∧∃c0 c1 c2 c3 c4,cs=.int .i64 d.kind::.string d.name::(AX d.farm++(AX d.reach++(.int .i64 d.rank::(c0++(c1++(c2++(c3++c4)))))))∧
 AH N w d.flow c0∧AH N w d.frm c1∧AH N w d.to c2∧AH N w d.every c3∧AH N w d.len c4
def I3(cs:LV)(d:De):Prop:=d.name.size<=maxLen∧d.farm.name.size<=maxLen∧d.reach.name.size<=maxLen∧∃c,cs=.string d.name::(AX d.farm++(AX d.reach++c))∧AH N w d.due c
structure BT (L:Bz) (cs:List Value) (x:AB):Prop where
 name:x.name.size<=maxLen
 cells:∃c0 c1 c2,cs=.string x.name::(c0++(c1++(c2++[L.lets.v,L.crops.v,L.reaches.v,L.farms.v,L.rots.v,L.rights.v,L.duties.v])))∧AH N w x.season c0∧AH N w x.cap c1∧AH N w x.start c2
 lets:BL N w 7 (K5 N w) L.lets x.lets
 crops:BL N w 7 (I1 N w) L.crops x.crops
 reaches:BL N w 51 (F0 N w) L.reaches x.reaches
 farms:BL N w 12 (I2 N w) L.farms x.farms
 rots:L.rots.n=x.rots.length∧x.rots.length<=140737488355328∧∀i (hi:i < x.rots.length),∃b o cs,L.rots.a=some ⟨b,o,none⟩∧N b∧cs.length=23∧w.rangeAt b (o+i*23) cs∧GQ N w (A2 L i) cs x.rots[i]
 rights:BL N w 37 (F1 N w) L.rights x.rights
 duties:BL N w 11 (I3 N w) L.duties x.duties
end
section
variable{N N':NP}{w w':World}
theorem BL.same{α:Type}{sz:Nat}{P c:LV->α->Prop}{h:Au}{l:List α}(g:∀b,N b->N' b)(hb:∀b,N b->w'.heap[b]?=w.heap[b]?)(f:∀cs d,P cs d->c cs d)(hr:BL N w sz P h l):BL N' w' sz c h l:=by
 obtain ⟨h1,h2,h3⟩:=hr
 refine ⟨h1,h2,fun i hi=>?_⟩
 obtain ⟨b,o,cs,g1,a,k,j,e⟩:=h3 i hi
 exact ⟨b,o,cs,g1,g b a,k,A0 j (hb b a),f _ _ e⟩
theorem BL.ok{α:Type}{sz:Nat}{P:LV->α->Prop}{h:Au}{l:List α}(hr:BL N w sz P h l):h.ok:=by
 obtain ⟨h1,h2,h3⟩:=hr
 refine ⟨by omega,fun a=>?_⟩
 obtain ⟨b,o,_,g1,_⟩:=h3 0 (by omega)
 exact ⟨b,o,g1⟩
theorem K5.same(a:∀b,N b->N' b)(hb:∀b,N b->w'.heap[b]?=w.heap[b]?){cs:LV}{d:Ge}(h:K5 N w cs d):K5 N' w' cs d:=by
 obtain ⟨h1,c,h2,h3⟩:=h
 exact ⟨h1,c,h2,h3.same a hb⟩
theorem I1.same(a:∀b,N b->N' b)(hb:∀b,N b->w'.heap[b]?=w.heap[b]?){cs:LV}{d:DK}(h:I1 N w cs d):I1 N' w' cs d:=by
 obtain ⟨h1,c,h2,h3⟩:=h
 exact ⟨h1,c,h2,h3.same a hb⟩
theorem F0.same(a:∀b,N b->N' b)(hb:∀b,N b->w'.heap[b]?=w.heap[b]?){cs:LV}{d:AF}(h:F0 N w cs d):F0 N' w' cs d:=by
 obtain ⟨h1,h2,c0,c1,c2,c3,c4,c5,c6,c7,h3,i,g1,e,g,f,c,j,k⟩:=h
 exact ⟨h1,h2,c0,c1,c2,c3,c4,c5,c6,c7,h3,i.same a hb,g1.same a hb,e.same a hb,g.same a hb,f.same a hb,c.same a hb,j.same a hb,k.same a hb⟩
theorem I2.same(a:∀b,N b->N' b)(hb:∀b,N b->w'.heap[b]?=w.heap[b]?){cs:LV}{d:D4}(h:I2 N w cs d):I2 N' w' cs d:=by
 obtain ⟨h1,h2,h3,c,e,g⟩:=h
 exact ⟨h1,h2,h3,c,e,g.same a hb⟩
theorem Fp.same(a:∀b,N b->N' b)(hb:∀b,N b->w'.heap[b]?=w.heap[b]?){cs:LV}{d:Cq}(h:Fp N w cs d):Fp N' w' cs d:=by
 obtain ⟨h1,c,h2,g⟩:=h
 exact ⟨h1,c,h2,g.same a hb⟩
theorem GQ.same(a:∀b,N b->N' b)(hb:∀b,N b->w'.heap[b]?=w.heap[b]?){t:Au}{cs:LV}{d:BG}(h:GQ N w t cs d):GQ N' w' t cs d:=by
 obtain ⟨h1,h2,c0,c1,c2,h3,c,g1,f,e⟩:=h
 exact ⟨h1,h2,c0,c1,c2,h3,c.same a hb,g1.same a hb,f.same a hb,e.same a hb (fun _ _ h=>h.same a hb)⟩
theorem F1.same(a:∀b,N b->N' b)(hb:∀b,N b->w'.heap[b]?=w.heap[b]?){cs:LV}{d:Ba}(h:F1 N w cs d):F1 N' w' cs d:=by
 obtain ⟨h1,h2,h3,c0,c1,c2,c3,c4,e,i,g1,c,g,f⟩:=h
 exact ⟨h1,h2,h3,c0,c1,c2,c3,c4,e,i.same a hb,g1.same a hb,c.same a hb,g.same a hb,f.same a hb⟩
theorem I3.same(a:∀b,N b->N' b)(hb:∀b,N b->w'.heap[b]?=w.heap[b]?){cs:LV}{d:De}(h:I3 N w cs d):I3 N' w' cs d:=by
 obtain ⟨h1,h2,h3,c,e,g⟩:=h
 exact ⟨h1,h2,h3,c,e,g.same a hb⟩
theorem BT.same(a:∀b,N b->N' b)(hb:∀b,N b->w'.heap[b]?=w.heap[b]?){L:Bz}{cs:LV}{x:AB}(h:BT N w L cs x):BT N' w' L cs x:=by
 refine ⟨h.name,?_,h.lets.same a hb (fun _ _ h=>h.same a hb),h.crops.same a hb (fun _ _ h=>h.same a hb),h.reaches.same a hb (fun _ _ h=>h.same a hb),h.farms.same a hb (fun _ _ h=>h.same a hb),?_,h.rights.same a hb (fun _ _ h=>h.same a hb),h.duties.same a hb (fun _ _ h=>h.same a hb)⟩
 ·obtain ⟨c0,c1,c2,h1,g,g1,c⟩:=h.cells
  exact ⟨c0,c1,c2,h1,g.same a hb,g1.same a hb,c.same a hb⟩
 ·obtain ⟨h1,h2,h3⟩:=h.rots
  refine ⟨h1,h2,fun i hi=>?_⟩
  obtain ⟨b,o,cs,g1,c,f,e,d⟩:=h3 i hi
  exact ⟨b,o,cs,g1,a b c,f,A0 e (hb b c),d.same a hb⟩
theorem BT.ok{L:Bz}{cs:LV}{x:AB}(h:BT N w L cs x):L.Ok:=by
 obtain ⟨h1,h2,h3⟩:=h.rots
 refine ⟨h.lets.ok,h.crops.ok,h.reaches.ok,h.farms.ok,⟨by omega,fun a=>?_⟩,h.rights.ok,h.duties.ok,fun i hi=>?_⟩
 ·obtain ⟨b,o,_,g1,_⟩:=h3 0 (by omega)
  exact ⟨b,o,g1⟩
 ·obtain ⟨_,_,_,_,_,_,_,g⟩:=h3 i (by omega)
  obtain ⟨_,_,_,_,_,_,_,_,_,g⟩:=g
  exact g.ok
end
def AG{α β:Type}(R:α->β->Prop):List α->List β->Prop
 |[],[]=>True
 |a::l,b::m=>R a b∧AG R l m
 |_,_=>False
section
variable{α β:Type}{R:α->β->Prop}
theorem AG.append:∀ {l:List α} {m:List β} {l':List α} {a:List β},AG R l m->AG R l' a->AG R (l++l') (m++a)
 |[],[],_,_,_,h=>h
 |_::_,_::_,_,_,h,h'=>⟨h.1,h.2.append h'⟩
 |[],_::_,_,_,h,_=>h.elim
 |_::_,[],_,_,h,_=>h.elim
theorem AG.length:∀ {l:List α} {m:List β},AG R l m->l.length=m.length
 |[],[],_=>rfl
 |_::_,_::_,h=>by simp[h.2.length]
 |[],_::_,h=>h.elim
 |_::_,[],h=>h.elim
theorem AG.get:∀ {l:List α} {m:List β},AG R l m->∀i (h:i < l.length) (a:i < m.length),R l[i] m[i]
 |[],_,_,i,h,_=>by simp at h
 |_::_,_::_,h,0,_,_=>h.1
 |_::_,_::_,h,i+1,h1,h2=>h.2.get i (by simpa using h1) (by simpa using h2)
 |_::_,[],h,_,_,_=>h.elim
theorem AG.mono{R':α->β->Prop}(hr:∀a b,R a b->R' a b):∀ {l:List α} {m:List β},AG R l m->AG R' l m
 |[],[],h=>h
 |_::_,_::_,h=>⟨hr _ _ h.1,h.2.mono hr⟩
 |[],_::_,h=>h.elim
 |_::_,[],h=>h.elim
theorem LP{γ:Type}(f:Nat->List α)(g:Nat->γ->List β):∀(l:List γ) (k:Nat),(∀i (h:i < l.length),AG R (f (k+i)) (g (k+i) l[i]))->AG R ((List.range' k l.length).flatMap f) ((l.zipIdx k).flatMap fun p=>g p.2 p.1)
 |[],_,_=>by simp[AG]
 |x::r,k,h=>by
  rw[yx,List.range'_succ,yW,xP,yW]
  refine (h 0 (by simp)).append (LP f g r (k+1) fun i hi=>?_)
  have:=h (i+1) (by simpa using hi)
  rw[show k+1+i=k+(i+1) by omega]
  simpa using this
theorem B7{γ:Type}(f:Nat->List α)(g:Nat->γ->List β)(l:List γ)(n:Nat)(a:n=l.length)(h:∀i (h:i < l.length),AG R (f i) (g i l[i])):AG R ((List.range n).flatMap f) (l.zipIdx.flatMap fun p=>g p.2 p.1):=by
 subst a
 rw[List.range_eq_range']
 exact LP f g l 0 (fun i hi=>by rw[yy];exact h i hi)
end
abbrev Lk:=Ex × Int
def K9(l:List Ge):List Lk:=l.zipIdx.flatMap fun p=> [(p.1.value,1+(p.2:Int))]
def Ie(l:List DK):List Lk:=l.zipIdx.flatMap fun p=> [(p.1.need,0)]
def F4(l:List AF):List Lk:=l.zipIdx.flatMap fun p=> [(p.1.delay,0),(p.1.cap,0),(p.1.bank,0),(p.1.siphon,0),(p.1.evap0,0),(p.1.evap1,0),(p.1.seep0,0),(p.1.seep1,0)]
def If(l:List D4):List Lk:=l.zipIdx.flatMap fun p=> [(p.1.area,0)]
def Ef(l:List Cq):List Lk:=l.zipIdx.flatMap fun p=> [(p.1.len,0)]
def Jj(l:List BG):List Lk:=l.zipIdx.flatMap fun p=> [(p.1.flow,0),(p.1.frm,0),(p.1.to,0)]++Ef p.1.turns
def Gg(l:List Ba):List Lk:=l.zipIdx.flatMap fun p=> [(p.1.flow,0),(p.1.frm,0),(p.1.to,0),(p.1.every,0),(p.1.len,0)]
def Gh(l:List De):List Lk:=l.zipIdx.flatMap fun p=> [(p.1.due,0)]
def AD(x:AB):List Lk:=
 [(x.season,0),(x.cap,0),(x.start,0)]++(K9 x.lets++(Ie x.crops++(F4 x.reaches++(If x.farms++(Jj x.rots++(Gg x.rights++Gh x.duties))))))
def VK(N:NP)(s:Nat)(w:World)(a:Array Value)(e:Lk):Prop:=
 ∃b o cs,a=#[.pointer (some ⟨b,o,none⟩),.int .i64 e.2]∧(b=s∨N b)∧w.rangeAt b o cs∧AH N w e.1 cs
theorem D0{w:World}{b o:Nat}{p c q:LV}(h:w.rangeAt b o (p++(c++q))):w.rangeAt b (o+p.length) c:=fun j v a=>by
 have d:=(yA.1 a).1
 have:=h (p.length+j) v (by rw[yU (by omega),zW,zn d];exact a)
 rw[show o+p.length+j=o+(p.length+j) by omega];exact this
theorem AH.len{N:NP}{w:World}{e:Ex}{c:LV}(h:AH N w e c):c.length=6:=by
 obtain ⟨a,cap,rfl,_⟩:=h.cells;rfl
theorem Cz{N:NP}{s:Nat}{w:World}{h:Au}{b o sz i a:Nat}{p c q:LV}{e:Ex}(lt:Int)(d:∀sz i a,h.at sz i a=⟨b,o+i*sz+a,none⟩)(hb:b=s∨N b){cs:LV}(hr:w.rangeAt b (o+i*sz) cs)(j:cs=p++(c++q))(g:p.length=a)(f:AH N w e c):
  VK N s w #[h.ptr sz i a,.int .i64 lt] (e,lt):=by
 subst j
 refine ⟨b,o+i*sz+a,c,?_,hb,?_,f⟩
 ·unfold Au.ptr;rw[d]
 ·have:=D0 hr
  rw[g] at this;exact this
theorem AR{h:Au}{b o:Nat}(d:h.a=some ⟨b,o,none⟩):∀sz i c,h.at sz i c=⟨b,o+i*sz+c,none⟩:=fun sz i c=>by unfold Au.at;rw[d]
theorem Av(r:Rf):(AX r).length=2:=rfl
section
variable{N:NP}{w:World}{L:Bz}{cs:LV}{x:AB}
theorem Ig(h:BT N w L cs x)(hr:w.rangeAt L.s 0 cs):AG (VK N L.s w) (BK L) (AD x):=by
 refine AG.append ?_ (AG.append ?_ (AG.append ?_ (AG.append ?_ (AG.append ?_ (AG.append ?_ (AG.append ?_ ?_))))))
 ·obtain ⟨c0,c1,c2,rfl,D,g1,a⟩:=h.cells
  have f:=D.len
  have g:=g1.len
  refine ⟨⟨L.s,1,c0,rfl,.inl rfl,?_,D⟩,⟨L.s,7,c1,rfl,.inl rfl,?_,g1⟩,⟨L.s,13,c2,rfl,.inl rfl,?_,a⟩,trivial⟩
  ·exact D0 (p:=[.string x.name]) (o:=0) hr
  ·have:=D0 (p:=.string x.name::c0) (c:=c1) (q:=c2++[L.lets.v,L.crops.v,L.reaches.v,L.farms.v,L.rots.v,L.rights.v,L.duties.v]) (o:=0) (b:=L.s) (w:=w) (by simpa using hr)
   simpa[f] using this
  ·have:=D0 (p:=.string x.name::(c0++c1)) (c:=c2) (q:=[L.lets.v,L.crops.v,L.reaches.v,L.farms.v,L.rots.v,L.rights.v,L.duties.v]) (o:=0) (b:=L.s) (w:=w) (by simpa using hr)
   simpa[f,g] using this
 ·obtain ⟨h1,h2,h3⟩:=h.lets
  refine B7 _ (fun i (d:Ge)=> [(d.value,1+(i:Int))]) x.lets _ h1 fun i hi=>?_
  obtain ⟨b,o,cs,g1,a,t,e,_,c,rfl,j⟩:=h3 i hi
  exact ⟨Cz (p:=[.string (x.lets[i]).name]) (q:=[]) _ (AR g1) (.inr a) e (by simp) rfl j,trivial⟩
 ·obtain ⟨h1,h2,h3⟩:=h.crops
  refine B7 _ (fun i (d:DK)=> [(d.need,0)]) x.crops _ h1 fun i hi=>?_
  obtain ⟨b,o,cs,g1,a,t,e,_,c,rfl,j⟩:=h3 i hi
  exact ⟨Cz (p:=[.string (x.crops[i]).name]) (q:=[]) _ (AR g1) (.inr a) e (by simp) rfl j,trivial⟩
 ·obtain ⟨h1,h2,h3⟩:=h.reaches
  refine B7 _ (fun i (d:AF)=> [(d.delay,0),(d.cap,0),(d.bank,0),(d.siphon,0),(d.evap0,0),(d.evap1,0),(d.seep0,0),(d.seep1,0)]) x.reaches _ h1 fun i hi=>?_
  obtain ⟨b,o,cs,g1,a,t,e,_,_,c0,c1,c2,c3,c4,c5,c6,c7,rfl,l,n,r,y,z,B,C,E⟩:=h3 i hi
  generalize x.reaches[i]=d at*
  have f:=l.len;have g:=n.len;have m:=r.len;have u:=y.len;have A:=z.len;have l5:=B.len;have l6:=C.len
  refine ⟨?_,?_,?_,?_,?_,?_,?_,?_,trivial⟩
  ·exact Cz (p:=.string d.name::AX d.frm) _ (AR g1) (.inr a) e (by simp;rfl) rfl l
  ·exact Cz (p:=.string d.name::(AX d.frm++c0)) _ (AR g1) (.inr a) e (by simp;rfl) (by simp[Av,f]) n
  ·exact Cz (p:=.string d.name::(AX d.frm++(c0++c1))) _ (AR g1) (.inr a) e (by simp;rfl) (by simp[Av,f,g]) r
  ·exact Cz (p:=.string d.name::(AX d.frm++(c0++(c1++c2)))) _ (AR g1) (.inr a) e (by simp;rfl) (by simp[Av,f,g,m]) y
  ·exact Cz (p:=.string d.name::(AX d.frm++(c0++(c1++(c2++c3))))) _ (AR g1) (.inr a) e (by simp;rfl) (by simp[Av,f,g,m,u]) z
  ·exact Cz (p:=.string d.name::(AX d.frm++(c0++(c1++(c2++(c3++c4)))))) _ (AR g1) (.inr a) e (by simp;rfl) (by simp[Av,f,g,m,u,A]) B
  ·exact Cz (p:=.string d.name::(AX d.frm++(c0++(c1++(c2++(c3++(c4++c5))))))) _ (AR g1) (.inr a) e (by simp;rfl) (by simp[Av,f,g,m,u,A,l5]) C
  ·exact Cz (p:=.string d.name::(AX d.frm++(c0++(c1++(c2++(c3++(c4++(c5++c6)))))))) (q:=[]) _ (AR g1) (.inr a) e (by simp) (by simp[Av,f,g,m,u,A,l5,l6]) E
 ·obtain ⟨h1,h2,h3⟩:=h.farms
  refine B7 _ (fun i (d:D4)=> [(d.area,0)]) x.farms _ h1 fun i hi=>?_
  obtain ⟨b,o,cs,g1,a,t,e,_,_,_,c,rfl,j⟩:=h3 i hi
  generalize x.farms[i]=d at*
  exact ⟨Cz (p:=.string d.name::(AX d.on++[.bool d.river])) _ (AR g1) (.inr a) e (by simp;rfl) rfl j,trivial⟩
 ·obtain ⟨h1,h2,h3⟩:=h.rots
  refine B7 _ (fun i (d:BG)=> [(d.flow,0),(d.frm,0),(d.to,0)]++Ef d.turns) x.rots _ h1 fun i hi=>?_
  obtain ⟨b,o,cs,g1,a,t,e,_,_,c0,c1,c2,rfl,l,n,r,G⟩:=h3 i hi
  generalize x.rots[i]=d at*
  have f:=l.len;have g:=n.len
  refine AG.append ⟨?_,?_,?_,trivial⟩ ?_
  ·exact Cz (p:=.string d.name::(AX d.on++[iV d.rank])) _ (AR g1) (.inr a) e (by simp;rfl) rfl l
  ·exact Cz (p:=.string d.name::(AX d.on++(iV d.rank::c0))) _ (AR g1) (.inr a) e (by simp;rfl) (by simp[Av,f]) n
  ·exact Cz (p:=.string d.name::(AX d.on++(iV d.rank::(c0++c1)))) _ (AR g1) (.inr a) e (by simp;rfl) (by simp[Av,f,g]) r
  ·obtain ⟨h1,h2,h3⟩:=G
   refine B7 _ (fun k (d:Cq)=> [(d.len,0)]) d.turns _ h1 fun k F=>?_
   obtain ⟨b,o,cs,g1,a,t,e,_,c,rfl,j⟩:=h3 k F
   exact ⟨Cz (p:=AX (d.turns[k]).farm) (q:=[]) _ (AR g1) (.inr a) e (by simp) rfl j,trivial⟩
 ·obtain ⟨h1,h2,h3⟩:=h.rights
  refine B7 _ (fun i (d:Ba)=> [(d.flow,0),(d.frm,0),(d.to,0),(d.every,0),(d.len,0)]) x.rights _ h1 fun i hi=>?_
  obtain ⟨b,o,cs,g1,a,t,e,_,_,_,c0,c1,c2,c3,c4,rfl,l,n,r,y,z⟩:=h3 i hi
  generalize x.rights[i]=d at*
  have f:=l.len;have g:=n.len;have m:=r.len;have u:=y.len
  refine ⟨?_,?_,?_,?_,?_,trivial⟩
  ·exact Cz (p:=iV d.kind::.string d.name::(AX d.farm++(AX d.reach++[iV d.rank]))) _ (AR g1) (.inr a) e (by simp;rfl) rfl l
  ·exact Cz (p:=iV d.kind::.string d.name::(AX d.farm++(AX d.reach++(iV d.rank::c0)))) _ (AR g1) (.inr a) e (by simp;rfl) (by simp[Av,f]) n
  ·exact Cz (p:=iV d.kind::.string d.name::(AX d.farm++(AX d.reach++(iV d.rank::(c0++c1))))) _ (AR g1) (.inr a) e (by simp;rfl) (by simp[Av,f,g]) r
  ·exact Cz (p:=iV d.kind::.string d.name::(AX d.farm++(AX d.reach++(iV d.rank::(c0++(c1++c2)))))) _ (AR g1) (.inr a) e (by simp;rfl) (by simp[Av,f,g,m]) y
  ·exact Cz (p:=iV d.kind::.string d.name::(AX d.farm++(AX d.reach++(iV d.rank::(c0++(c1++(c2++c3))))))) (q:=[]) _ (AR g1) (.inr a) e (by simp) (by simp[Av,f,g,m,u]) z
 ·obtain ⟨h1,h2,h3⟩:=h.duties
  refine B7 _ (fun i (d:De)=> [(d.due,0)]) x.duties _ h1 fun i hi=>?_
  obtain ⟨b,o,cs,g1,a,t,e,_,_,_,c,rfl,j⟩:=h3 i hi
  generalize x.duties[i]=d at*
  exact ⟨Cz (p:=.string d.name::(AX d.farm++AX d.reach)) (q:=[]) _ (AR g1) (.inr a) e (by simp) rfl j,trivial⟩
theorem Kb(h:BT N w L cs x)(hr:w.rangeAt L.s 0 cs){Bs:Nat}(d:w.cell? ⟨Bs,0,none⟩=some (.pointer (some ⟨L.s,0,none⟩))):It L Bs w:=by
 obtain ⟨c0,c1,c2,rfl,z,g1,l⟩:=h.cells
 have A:=z.len;have r:=g1.len;have m:=l.len
 have a:=D0 (p:=.string x.name::(c0++(c1++c2))) (c:=[L.lets.v,L.crops.v,L.reaches.v,L.farms.v,L.rots.v,L.rights.v,L.duties.v]) (q:=[]) (o:=0) (b:=L.s) (w:=w) (by simpa using hr)
 have e:(Value.string x.name::(c0++(c1++c2))).length=19:=by simp[A,r,m]
 rw[e] at a
 refine ⟨d,a 0 _ rfl,a 1 _ rfl,a 2 _ rfl,a 3 _ rfl,a 4 _ rfl,a 5 _ rfl,a 6 _ rfl,fun i hi=>?_⟩
 obtain ⟨h1,h2,h3⟩:=h.rots
 obtain ⟨b,o,cs,t,B,C,k,_,_,j,g,f,rfl,n,y,u,_⟩:=h3 i (by omega)
 rw[AR t]
 have:=D0 (p:=.string (x.rots[i]'(by omega)).name::(AX (x.rots[i]'(by omega)).on++(iV (x.rots[i]'(by omega)).rank::(j++(g++f))))) (c:=[(A2 L i).v]) (q:=[]) (o:=o+i*23) (b:=b) (w:=w) (by simpa using k)
 have e:(Value.string (x.rots[i]'(by omega)).name::(AX (x.rots[i]'(by omega)).on++(iV (x.rots[i]'(by omega)).rank::(j++(g++f))))).length=22:=by simp[Av,n.len,y.len,u.len]
 rw[e] at this
 exact this 0 _ rfl
end
structure Us where
 b:Nat
 o:Nat
 to:Int
 at_:Int
 name:ByteArray
 n:Int
def Us.v(u:Us):Array Value:=#[.agg #[.pointer (some ⟨u.b,u.o,none⟩),.int .i64 u.to,.int .i64 u.at_]]
def Nb(op:Int)(len:Nat):Bool:=decide (1<=op)&&(decide (op<=6)&&(if 3<=op then decide (len=2) else decide (len=0)))
def Ll(op lt:Int):Int:=if op=2 then (if 0 < lt then 2 else 1) else 0
def OV(op lt:Int):Int:=if op=2 then (if 0 < lt then lt - 1 else 0) else 0
mutual
def Ca(w:World)(lt:Int):Ex->Nat->Nat->List Us × Bool
 |.mk op _ _ rn ri args,b,o=>if Nb op args.length then (⟨b,o+3,Ll op lt,OV op lt,rn,ri⟩::(Bw w lt args (w.cell? ⟨b,o+5,none⟩) 0).1,(Bw w lt args (w.cell? ⟨b,o+5,none⟩) 0).2) else ([],false)
def Bw(w:World)(lt:Int):List Ex->Option Value->Nat->List Us × Bool
 |[],_,_=>([],true)
 |e::r,v,i=>match v with
  |some (.slice (some ⟨b,o,none⟩) _ _)=>if (Ca w lt e b (o+i*6)).2 then ((Ca w lt e b (o+i*6)).1++(Bw w lt r v (i+1)).1,(Bw w lt r v (i+1)).2) else ((Ca w lt e b (o+i*6)).1,false)
  |_=>([],false)
end
theorem LQ{w:World}{lt:Int}{b o n c:Nat}{e:Ex}:∀(l:List Ex) (i:Nat),Bw w lt (l++[e]) (some (.slice (some ⟨b,o,none⟩) n c)) i=
  if (Bw w lt l (some (.slice (some ⟨b,o,none⟩) n c)) i).2 then ((Bw w lt l (some (.slice (some ⟨b,o,none⟩) n c)) i).1++(Ca w lt e b (o+(i+l.length)*6)).1,(Ca w lt e b (o+(i+l.length)*6)).2) else Bw w lt l (some (.slice (some ⟨b,o,none⟩) n c)) i
 |[],i=>by
  simp only[yS,Bw,yH,xZ,zD]
  split
  ·rename_i h;simp[h]
  ·rename_i h;simp[h]
 |x::r,i=>by
  simp only[yP,Bw,LQ r (i+1),yx]
  rw[show i+(r.length+1)=i+1+r.length by omega]
  by_cases h1:(Ca w lt x b (o+i*6)).2=true
  ·simp only[h1,zD]
   by_cases h2:(Bw w lt r (some (.slice (some ⟨b,o,none⟩) n c)) (i+1)).2=true
   ·simp[h2]
   ·simp[h2]
  ·simp[h1]
theorem LR{w:World}{lt:Int}{b o n c:Nat}:∀(l m:List Ex) (i:Nat),(Bw w lt l (some (.slice (some ⟨b,o,none⟩) n c)) i).2=false->Bw w lt (l++m) (some (.slice (some ⟨b,o,none⟩) n c)) i=Bw w lt l (some (.slice (some ⟨b,o,none⟩) n c)) i
 |[],m,i,h=>by simp[Bw] at h
 |x::r,m,i,h=>by
  simp only[Bw,yP] at h ⊢
  by_cases h1:(Ca w lt x b (o+i*6)).2=true
  ·simp only[h1,zD] at h ⊢
   rw[LR r m (i+1) h]
  ·simp[h1]
theorem Nq{w:World}{lt:Int}{b o n c:Nat}:∀(l m:List Ex) (i:Nat),∃post,(Bw w lt (l++m) (some (.slice (some ⟨b,o,none⟩) n c)) i).1=(Bw w lt l (some (.slice (some ⟨b,o,none⟩) n c)) i).1++post
 |[],m,i=>⟨_,rfl⟩
 |x::r,m,i=>by
  simp only[Bw,yP]
  by_cases h1:(Ca w lt x b (o+i*6)).2=true
  ·simp only[h1,zD]
   obtain ⟨post,a⟩:=Nq r m (i+1)
   exact ⟨post,by rw[a];simp⟩
  ·simp only[h1]
   exact ⟨[],by simp⟩
mutual
def QQ(w:World)(C:Addr->Prop):Ex->Nat->Nat->Prop
 |.mk op _ _ _ _ args,b,o=>∃a cap,(w.cell? ⟨b,o,none⟩=some (.int .i64 op)∧C ⟨b,o,none⟩)∧(w.cell? ⟨b,o+5,none⟩=some (.slice a args.length cap)∧C ⟨b,o+5,none⟩)∧args.length<=140737488355328∧JA w C a 0 args
def JA(w:World)(C:Addr->Prop)(a:Option Addr):Nat->List Ex->Prop
 |_,[]=>True
 |i,e::r=>(∃b o,a=some ⟨b,o,none⟩∧QQ w C e b (o+i*6))∧JA w C a (i+1) r
end
theorem Nr{w:World}{C:Addr->Prop}{a:Option Addr}:∀ {l:List Ex} {k:Nat},JA w C a k l->∀i (h:i < l.length),∃b o,a=some ⟨b,o,none⟩∧QQ w C l[i] b (o+(k+i)*6)
 |[],_,_,i,h=>by simp at h
 |e::r,k,hr,i,h=>by
  rw[JA] at hr
  cases i with
  |zero=>exact hr.1
  |succ i=>
   obtain ⟨b,o,h1,h2⟩:=Nr hr.2 i (by simpa using h)
   exact ⟨b,o,h1,by rw[show k+(i+1)=k+1+i by omega];simpa using h2⟩
theorem QR{w:World}{lt:Int}{b o n c:Nat}{l:List Ex}{i:Nat}(h:i < l.length)(a:(Bw w lt (l.take i) (some (.slice (some ⟨b,o,none⟩) n c)) 0).2=true):
  Bw w lt (l.take (i+1)) (some (.slice (some ⟨b,o,none⟩) n c)) 0=((Bw w lt (l.take i) (some (.slice (some ⟨b,o,none⟩) n c)) 0).1++(Ca w lt l[i] b (o+i*6)).1,(Ca w lt l[i] b (o+i*6)).2):=by
 have d:(l.take i).length=i:=by rw[zc];omega
 rw[yJ h,LQ,a,yw rfl,d,yy]
structure IU (J:Nat->(Nat->Prop)->World->Prop) (O:Nat->Prop) (B0 l By Bi k:Nat) (W:World):Prop where
 j:J k O W
 size:B0<=W.heap.size
 own:∀b,O b->b < W.heap.size
 y:O By∧W.cell? ⟨By,0,none⟩=some (.func (.yield l) #[] #[])
 i:O Bi∧W.cell? ⟨Bi,0,none⟩=some (.func (.func 71) #[] #[.pointer (some ⟨By,0,none⟩),.pointer (some ⟨Bi,0,none⟩)])
section
variable{J:Nat->NP->World->Prop}{Jx:NP->World->Prop}{Jp:List PanicEntry->NP->World->Prop}{O:NP}{B0 l By Bi k k':Nat}{W W':World}
theorem IU.below(d:Ce J)(h:IU J O B0 l By Bi k W)(hb:Below W.heap.size W W'):IU J O B0 l By Bi k W':=
 ⟨d k O W O W' h.j hb.size hb.os hb.tape hb.output (fun b _ a=>hb.block b a) (fun _=>.inl),yu h.size hb.size,fun b c=>yv (h.own b c) hb.size,
  ⟨h.y.1,(hb.cell (p:=⟨By,0,none⟩) (h.own _ h.y.1)).trans h.y.2⟩,⟨h.i.1,(hb.cell (p:=⟨Bi,0,none⟩) (h.own _ h.i.1)).trans h.i.2⟩⟩
theorem IU.same(h:IU J O B0 l By Bi k W)(c:J k' O W')(hs:AO O W W'):IU J O B0 l By Bi k' W':=
 ⟨c,yu h.size hs.1,fun b a=>yv (h.own b a) hs.1,⟨h.y.1,CZ hs h.y.1 h.y.2⟩,⟨h.i.1,CZ hs h.i.1 h.i.2⟩⟩
theorem IU.sameBelow(h:IU J O B0 l By Bi k W)(hb:Below W.heap.size W W'):AO O W W':=⟨hb.size,fun b a=>hb.block b (h.own b a)⟩
def Ns(J:Nat->NP->World->Prop)(Jx:NP->World->Prop)(Jp:List PanicEntry->NP->World->Prop)(O:NP)(k:Nat)(ok:Bool)(W:World)(e:Ending)(W':World):Prop:=
 (∃r:Bool,e=.returned (.bool r)∧AO O W W'∧((r=true∧ok=true∧J k O W')∨(r=false∧Jx O W')))∨∃a,e=.panicked a∧Jp a O W'∧AO O W W'
theorem Ns.from(hs:AO O W W'){e:Ending}{a:World}{ok:Bool}(h:Ns J Jx Jp O k ok W' e a):Ns J Jx Jp O k ok W e a:=by
 rcases h with ⟨r,h1,h2,h3⟩|h
 ·exact .inl ⟨r,h1,hs.trans h2,h3⟩
 ·obtain ⟨b,h1,h2,h3⟩:=h
  exact .inr ⟨b,h1,h2,hs.trans h3⟩
end
end Go.Proofs.YtjofgpfocadomaaGreatDoor
namespace Go.Proofs.YtjofgpfocadomaaGreatDoor
open Go.RowKit Go.Maps Go.ChangeMaps Go.WideMaps Go.MapKept
open Go.WideElems (Fit rd rg pl rd_val elemAt)
theorem Nw:Keyed Tryz.prog 9:=string_keyed j7
theorem Ur(w:World):(zeroValue 3).run Tryz.prog w=.ok (.int .i64 0) w:=by kernel_rfl
def CX:LB->ByteArray->Option Nat
 |[],_=>none
 |x::r,s=>if x=s then some 0 else (CX r s).map (·+1)
theorem Gk{l:LB}{s:ByteArray}(h:s∉l):CX l s=none:=by
 induction l with
 |nil=>rfl
 |cons x r ih=>
  rw[yI,not_or] at h
  rw[CX,yt (fun e=>h.1 e.symm),ih h.2];rfl
theorem IW{l:LB}{s:ByteArray}(h:s∈l):∃i,CX l s=some i∧∃h:i < l.length,l[i]=s:=by
 induction l with
 |nil=>simp at h
 |cons x r ih=>
  rw[CX]
  by_cases a:x=s
  ·rw[yw a]
   exact ⟨0,rfl,by simp,by simpa using a⟩
  ·rw[yt a]
   obtain ⟨i,h1,h2,h3⟩:=ih ((yI.1 h).resolve_left (fun e=>a e.symm))
   exact ⟨i+1,by rw[h1];rfl,by simpa using h2,by simpa using h3⟩
theorem P9{l:LB}{x:ByteArray}(h:x∉l)(s:ByteArray):CX (l++[x]) s=if s=x then some l.length else CX l s:=by
 induction l with
 |nil=>
  simp only[yS,CX,yH]
  by_cases hs:s=x
  ·rw[yw hs,yw hs.symm]
  ·rw[yt hs,yt (fun e=>hs e.symm)];rfl
 |cons y r ih=>
  rw[yI,not_or] at h
  rw[yP,CX,CX,ih h.2]
  by_cases a:y=s
  ·rw[yw a,yw a]
   by_cases hs:s=x
   ·exact absurd (hs.symm.trans a.symm) h.1
   ·rw[yt hs]
  ·rw[yt a,yt a]
   by_cases hs:s=x
   ·rw[yw hs,yw hs];simp
   ·rw[yt hs,yt hs]
def BV(w:World)(m:Nat)(b:LB):Prop:=
 ∃c a,w.heap[m]?=some (.map c a)∧Fit (H:=Unit) Tryz.prog 9 (plainElem Tryz.prog 3) c a∧c.size=b.length∧
  ∀s:ByteArray,s.size<=maxLen->∀d:DataW Unit,(DataW.map ((c.toList.map (rg Tryz.prog 9 (plainElem Tryz.prog 3))).foldr DataW.insert [])).atKey (.string s.data.toList) d=(match CX b s with|some i=>.lit (.int .i64 (i:Int))|none=>d)
theorem Kh(w:World):BV (w.alloc (.map #[] 0)) w.heap.size []:=
 ⟨#[],0,(MapKept.heap_alloc w _).1,⟨by simp,stamped_empty 0,by simp⟩,rfl,fun s _ a=>rfl⟩
theorem BV.block{w w':World}{m:Nat}{b:LB}(h:BV w m b)(hb:w'.heap[m]?=w.heap[m]?):BV w' m b:=by
 obtain ⟨c,a,h1,h2⟩:=h
 exact ⟨c,a,hb.trans h1,h2⟩
theorem BV.lt{w:World}{m:Nat}{a:LB}(h:BV w m a):m < w.heap.size:=by
 obtain ⟨c,b,h1,h2⟩:=h
 exact (yd.1 h1).1
theorem BV.size{w:World}{m:Nat}{b:LB}(h:BV w m b):∃c a,w.heap[m]?=some (.map c a)∧c.size=b.length:=by
 obtain ⟨c,a,h1,_,h2,_⟩:=h
 exact ⟨c,a,h1,h2⟩
def I4(a:LB)(s:ByteArray):Value:=
 match CX a s with
 |some i=>.tuple #[.int .i64 (i:Int),.bool true]
 |none=>.tuple #[.int .i64 0,.bool false]
theorem BV.look{w:World}{m:Nat}{c:LB}(h:BV w m c)(s:ByteArray)(hs:s.size<=maxLen):
  (Instr.lookup 137 (.map (some m)) (.string s) true).run Tryz.prog w=.ok (I4 c s) w:=by
 obtain ⟨p,j,hb,F,_,d⟩:=h
 have e:=keyOf_string_mk (P:=Tryz.prog) j7 hs
 rcases Maps.fit_look (t:=137) true Nw qH (Ur w) hb F e with ⟨b,_,o⟩|⟨q,y,_,_,b,n,k,_⟩
 ·rw[b]
  have h1:=o .nil
  rw[d s hs] at h1
  unfold I4
  cases g:CX c s with
  |none=>rfl
  |some i=>rw[g] at h1;cases h1
 ·rw[b]
  obtain ⟨a,l,f,_⟩:=plainElem_int_inv (H:=Unit) qQ n
  have h1:=k .nil
  rw[d s hs] at h1
  unfold I4
  cases g:CX c s with
  |none=>rw[g,f] at h1;cases h1
  |some i=>
   rw[g,f] at h1
   simp only[DataW.lit.injEq,Lit.int.injEq,true_and] at h1
   rw[l,<-h1];rfl
theorem Ki{H:Type}(p:Lit × DataW H):∀l:List (Lit × DataW H),p∈l.foldr DataW.insert []->p∈l
 |[],h=>h
 |x::r,h=>by
  rw[List.foldr_cons,mem_insert_iff] at h
  exact h.elim (fun e=>by rw[e];exact List.mem_cons_self) (fun h=>List.mem_cons_of_mem _ (Ki p r h))
theorem BV.put{w:World}{m:Nat}{a:LB}(h:BV w m a)(s:ByteArray)(hs:s.size<=maxLen)(z:s∉a)(A:a.length < 1000000):
  ∃w',(Instr.mapUpdate 137 (.map (some m)) (.string s) (.int .i64 (a.length:Int))).run Tryz.prog w=.ok () w'∧BV w' m (a++[s])∧w.grownBy w' (some m):=by
 obtain ⟨j,n,hb,F,o,k⟩:=h
 have b:=keyOf_string_mk (P:=Tryz.prog) j7 hs
 have C:plainElem (H:=Unit) Tryz.prog 3 (iV (a.length:Int))=some (.lit (.int .i64 (a.length:Int)),[]):=plainElem_int qQ (by simp only[Lit.wf,yG,z7];exact ⟨by have:IntKind.min .i64= -9223372036854775808:=rfl;omega,by have:IntKind.max .i64=9223372036854775807:=rfl;omega⟩)
 obtain ⟨g,c,l,F',d,_⟩:=Maps.fit_store (R':=plainElem Tryz.prog 3) (t:=137) Nw qH hb F (by unfold maxLen;omega) (fun _ _ _ _ A=>A) b C
 have q:∀x∈j.toList,x.key≠.string s:=by
  rcases Maps.fit_look (t:=137) true Nw qH (Ur w) hb F b with ⟨_,h,_⟩|⟨G,y,_,_,_,_,u,_⟩
  ·exact h
  ·have h1:=u .nil
   have h2:=u (.lit (.bool true))
   rw[k s hs,Gk z] at h1 h2
   rw[<-h1] at h2
   cases h2
 refine ⟨_,l,⟨g,c,heap_setBlock_same hb _,F',?_,?_⟩,⟨rfl,rfl,rfl,by simp[setBlock],fun i _ hi=>heap_setBlock_other hb _ (fun e=>hi (by rw[e]))⟩⟩
 ·have E:g.size=((g.toList.map (rg Tryz.prog 9 (plainElem (H:=Unit) Tryz.prog 3))).foldr DataW.insert []).length:=by rw[length_sorted];simp
  rw[E,d]
  unfold putKey
  rw[length_insert]
  have v:=filter_all Nw F b q
  have B:(((j.toList.map (rg Tryz.prog 9 (plainElem (H:=Unit) Tryz.prog 3))).foldr DataW.insert []).filter (notKey (.string s.data.toList)))=((j.toList.map (rg Tryz.prog 9 (plainElem (H:=Unit) Tryz.prog 3))).foldr DataW.insert []):=by
   rw[List.filter_eq_self] at v ⊢
   exact fun p r=>v p (Ki p _ r)
  rw[B,length_sorted]
  simp[o]
 ·intro t D I
  rw[d]
  have r:(DataW.map (putKey (.string s.data.toList) (.lit (.int .i64 (a.length:Int))) ((j.toList.map (rg Tryz.prog 9 (plainElem (H:=Unit) Tryz.prog 3))).foldr DataW.insert [])))=(DataW.map ((j.toList.map (rg Tryz.prog 9 (plainElem (H:=Unit) Tryz.prog 3))).foldr DataW.insert [])).put (.string s.data.toList) (.lit (.int .i64 (a.length:Int))):=rfl
  rw[r,P9 z]
  by_cases f:t=s
  ·subst f
   rw[yw rfl,atKey_put_same ⟨_,rfl⟩ (Nw.key b)]
  ·rw[yt f,atKey_put_other (fun e=>f (by simp at e;exact ByteArray.ext (by simpa using e))),k t D]
end Go.Proofs.YtjofgpfocadomaaGreatDoor
namespace Go.Proofs.YtjofgpfocadomaaGreatDoor
open Go Go.RowKit
section
variable{P:Program}{ops:Array Oper}{Q:QT}{md:Region.Mode}{T:World->Prop}{k:Nat}
def CC(P:Program)(md:Region.Mode)(ops:Array Oper)(Q:QT)(T:World->Prop)(k:Nat):Nat->Array Bool->Act->World->Prop
 |0,listed,a,w=>Region.ready md ops listed=[]∧Q .normal a w
 |fuel+1,listed,a,w=>
  (Region.ready md ops listed=[]->Q .normal a w)∧
  ∀i∈Region.ready md ops listed,wpOp P ops Q i (fun b w'=>((listed.setIfInBounds i true).getD k true=false->T w')∧CC P md ops Q T k fuel (listed.setIfInBounds i true) b w') a w
theorem Kq:∀(fuel:Nat) (b:Array Bool) (a:Act) (w:World),CC P md ops Q T k fuel b a w->wpAny P md ops Q fuel b a w
 |0,_,_,_,h=>h
 |fuel+1,_,_,_,h=>⟨h.1,fun i hi=>wpOp_mono (fun d w' c=>Kq fuel _ d w' c.2) (h.2 i hi)⟩
theorem MA{i:Nat}{s:Oper}{v:Value}(hi:ops[i]?=some s)(q:∀(j:Nat) (o:Oper) cs b,ops[j]?=some o->o.op≠.select cs b)
 (N:∀c a w,Q (.panic c) (a.put s.dst v) w->Q (.panic c) a w)(t:k≠i)(L:∀ok,ops[k]?=some ok->∃e∈ok.after,Region.binds md e=true∧e.on=i):
  ∀(fuel:Nat) (d:Array Bool) (a:Act) (w:World),
   (∀j p,ops[j]?=some p->j≠i->d.getD j true=false->(∀e∈p.after,Region.binds md e=true->e.on≠i)->s.apart ops p=true)->
   i∈Region.ready md ops d->YieldsIf P ops T s v a->d.getD k true=false->T w->
   CC P md ops Q T k fuel (d.setIfInBounds i true) (a.put s.dst v) w->CC P md ops Q T k (fuel+1) d a w:=by
 intro fuel
 induction fuel with
 |zero=>
  intro d a w _ hr C x A H
  refine ⟨fun h=>(by rw[h] at hr;cases hr),fun j D=>?_⟩
  by_cases f:j=i
  ·subst f;exact C.wpOp hi A ⟨fun _=>A,H⟩
  ·have:=ready_mono D f
   rw[H.1] at this
   cases this
 |succ fuel ih=>
  intro d a w g hr C x A H
  refine ⟨fun h=>(by rw[h] at hr;cases hr),fun j D=>?_⟩
  by_cases f:j=i
  ·subst f;exact C.wpOp hi A ⟨fun _=>A,H⟩
  ·have h1:=H.2 j (ready_mono D f)
   obtain ⟨r,p,l,y⟩:=xx.1 D
   have n:∀e∈p.after,Region.binds md e=true->e.on≠i:=fun e F hb E=>by
    have h1:=y e F hb
    have h0:=(xx.1 hr).1
    rw[E] at h1
    rcases zU i d.size with G|G
    ·simp[G] at h0 h1;rw[h0] at h1;cases h1
    ·simp[xE G] at h1
   have z:k≠j:=fun e=>by
    subst e
    obtain ⟨e,F,hb,I⟩:=L p l
    exact n e F hb I
   have h2:=wpOp_putIf l (g j p l f r n) (fun cs b=>q i s cs b hi) (fun cs b=>q j p cs b l) N C h1
   have m:∀k ok,ops[k]?=some ok->k≠i->(d.setIfInBounds j true).getD k true=false->
     (∀e∈ok.after,Region.binds md e=true->e.on≠i)->s.apart ops ok=true:=fun k ok x t u J=>by
    refine g k ok x t ?_ J
    by_cases B:j=k
    ·subst B;exact r
    ·rw[xk true B] at u;exact u
   have K:(d.setIfInBounds j true).getD k true=false:=by rw[xk true (xi z)];exact x
   refine wpOp_mono (fun O w' h3=>?_) h2
   have M:T w':=h3.2.1 (by rw[xk true (xi z),xk true (xi t)];exact x)
   refine ⟨fun _=>M,ih (d.setIfInBounds j true) O w' m (ready_mono hr (xi f)) h3.1 K M ?_⟩
   rw[Array.setIfInBounds_comm _ _ f]
   exact h3.2.2
theorem Lr{i:Nat}{r:Oper}{v:Value}(hi:ops[i]?=some r)(n:∀(j:Nat) (o:Oper) cs b,ops[j]?=some o->o.op≠.select cs b)
 (I:∀c a w,Q (.panic c) (a.put r.dst v) w->Q (.panic c) a w)(g:k≠i):
  ∀(fuel:Nat) (d:Array Bool) (a:Act) (w:World),
   (∀j s,ops[j]?=some s->j≠i->d.getD j true=false->(∀e∈s.after,Region.binds md e=true->e.on≠i)->r.apart ops s=true)->
   i∈Region.ready md ops d->YieldsIf P ops (fun _=>True) r v a->(d.getD k true=false->T w)->
   CC P md ops Q T k fuel (d.setIfInBounds i true) (a.put r.dst v) w->CC P md ops Q T k (fuel+1) d a w:=by
 intro fuel
 induction fuel with
 |zero=>
  intro d a w _ hr B F H
  refine ⟨fun h=>(by rw[h] at hr;cases hr),fun j C=>?_⟩
  by_cases f:j=i
  ·subst f;exact B.wpOp hi trivial ⟨fun h=>F (by rw[xk true (xi g)] at h;exact h),H⟩
  ·have:=ready_mono C f
   rw[H.1] at this
   cases this
 |succ fuel ih=>
  intro d a w l hr B F H
  refine ⟨fun h=>(by rw[h] at hr;cases hr),fun j C=>?_⟩
  by_cases f:j=i
  ·subst f;exact B.wpOp hi trivial ⟨fun h=>F (by rw[xk true (xi g)] at h;exact h),H⟩
  ·have h1:=H.2 j (ready_mono C f)
   obtain ⟨p,s,q,y⟩:=xx.1 C
   have u:∀e∈s.after,Region.binds md e=true->e.on≠i:=fun e L hb D=>by
    have h1:=y e L hb
    have h0:=(xx.1 hr).1
    rw[D] at h1
    rcases zU i d.size with t|t
    ·simp[t] at h0 h1;rw[h0] at h1;cases h1
    ·simp[xE t] at h1
   have h2:=wpOp_putIf q (l j s q f p u) (fun cs b=>n i r cs b hi) (fun cs b=>n j s cs b q) I B h1
   have m:∀k ok,ops[k]?=some ok->k≠i->(d.setIfInBounds j true).getD k true=false->
     (∀e∈ok.after,Region.binds md e=true->e.on≠i)->r.apart ops ok=true:=fun k ok K g x E=>by
    refine l k ok K g ?_ E
    by_cases A:j=k
    ·subst A;exact p
    ·rw[xk true A] at x;exact x
   refine wpOp_mono (fun J w' h3=>?_) h2
   have G:(d.setIfInBounds j true).getD k true=false->T w':=fun h=>h3.2.1 (by
    by_cases z:k=j
    ·subst z
     rcases zU k d.size with t|t
     ·simp[t] at h
     ·simp at h
    ·rw[xk true (xi z)] at h ⊢
     rw[xk true (xi g)];exact h)
   refine ⟨G,ih (d.setIfInBounds j true) J w' m (ready_mono hr (xi f)) h3.1 G ?_⟩
   rw[Array.setIfInBounds_comm _ _ f]
   exact h3.2.2
theorem Ag{i:Nat}{d:Oper}{v:Value}{fuel:Nat}{b:Array Bool}{a:Act}{w:World}(hi:ops[i]?=some d)
 (hs:Region.noSelect ops=true)(f:Region.free md ops b i=true)(hr:(Region.ready md ops b).contains i=true)
 (e:∀c a w,Q (.panic c) (a.put d.dst v) w->Q (.panic c) a w)(l:(k !=i)=true)(g:YieldsIf P ops (fun _=>True) d v a)(j:b.getD k true=false->T w)
 (h:CC P md ops Q T k fuel (b.setIfInBounds i true) (a.put d.dst v) w):CC P md ops Q T k (fuel+1) b a w:=
 Lr hi (Region.noSelect_spec hs) e (by simpa using l) fuel b a w (Region.free_spec hi f) (by simpa using hr) g j h
def Sr(md:Region.Mode)(ops:Array Oper)(k i:Nat):Bool:=match ops[k]? with
 |none=>false
 |some o=>o.after.any fun e=>Region.binds md e&&e.on==i
theorem AP{i:Nat}{f:Oper}{v:Value}{fuel:Nat}{b:Array Bool}{a:Act}{w:World}(hi:ops[i]?=some f)
 (hs:Region.noSelect ops=true)(n:Region.free md ops b i=true)(hr:(Region.ready md ops b).contains i=true)
 (j:∀c a w,Q (.panic c) (a.put f.dst v) w->Q (.panic c) a w)(d:(k !=i&&!b.getD k true&&Sr md ops k i)=true)(l:YieldsIf P ops T f v a)(o:T w)
 (h:CC P md ops Q T k fuel (b.setIfInBounds i true) (a.put f.dst v) w):CC P md ops Q T k (fuel+1) b a w:=by
 simp only[yG,bne_iff_ne,Bool.not_eq_true'] at d
 refine MA hi (Region.noSelect_spec hs) j d.1.1 (fun ok g=>?_) fuel b a w (Region.free_spec hi n) (by simpa using hr) l d.1.2 o h
 have:=d.2
 unfold Sr at this
 rw[g] at this
 simp only[xV,yG,qr] at this
 obtain ⟨e,m,h1,h2⟩:=this
 exact ⟨e,m,h1,h2⟩
theorem A7{i:Nat}{o:Oper}{fuel:Nat}{b:Array Bool}{a:Act}{w:World}(hr:Region.ready md ops b=[i])(d:ops[i]?=some o)
 (h:∀K:Act->World->Prop,Hid (∀a w,((b.setIfInBounds i true).getD k true=false->T w)->CC P md ops Q T k fuel (b.setIfInBounds i true) a w->K a w)->if Region.wanted o (yielded ops a.tmps)=true then Oper.wp P o a w K Q else K (a.put o.dst undef) w):CC P md ops Q T k (fuel+1) b a w:=by
 refine ⟨fun h0=>(by rw[hr] at h0;cases h0),fun j c=>?_⟩
 rw[hr] at c
 obtain rfl:=ze.1 c
 exact wpOp_step d (fun f e=>h f (yb fun a w g l=>e a w ⟨g,l⟩))
theorem AQ{fuel:Nat}{b:Array Bool}{a:Act}{w:World}(hr:Region.ready md ops b=[])(h:Q .normal a w):CC P md ops Q T k fuel b a w:=by
 cases fuel with
 |zero=>exact ⟨hr,h⟩
 |succ n=>exact ⟨fun _=>h,by rw[hr];simp⟩
theorem DM{id:Nat}{a:Act}{w:World}(b:P.follows .mixedOrders=true)(T:World->Prop)(k:Nat)
 (h:CC P .any ops Q T k ops.size (Array.replicate ops.size false) a w.drew):(Code.region id ops true).wp P Q a w:=
 wp_region_any b (Kq _ _ _ _ h)
end
end Go.Proofs.YtjofgpfocadomaaGreatDoor
namespace Go.Proofs.YtjofgpfocadomaaGreatDoor
open Go
structure J3 (ops:Array Oper) (a₀:Act) (Ext:Array Bool->Array Value->World->Prop) (Pp:Nat->Value->World->Prop) (listed:Array Bool) (a:Act) (w:World):Prop where
 size:listed.size=ops.size
 down:∀m,listed.getD m false=true->∀o,ops[m]?=some o->∀e∈o.after,Region.binds .any e=true->listed.getD e.on false=true
 ext:Ext listed a.tmps w
 defers:a.defers=a₀.defers
 tmps:a.tmps.size=a₀.tmps.size
 done:∀i,listed.getD i false=true->∀o t,ops[i]?=some o->o.dst=some t->Pp i (a.tmps.getD t undef) w
 free:∀k,(∀i,listed.getD i false=true->∀o,ops[i]?=some o->o.dst≠some k)->a.tmps.getD k undef=a₀.tmps.getD k undef
theorem Ax{a:Act}{t:Nat}(v:Value)(h:t < a.tmps.size):(a.put (some t) v).tmps.getD t undef=v:=by
 simp[Act.put,h]
theorem Cj{a:Act}{t k:Nat}(v:Value)(h:t≠k):(a.put (some t) v).tmps.getD k undef=a.tmps.getD k undef:=by
 simp[Act.put,h]
def FI(ops:Array Oper):Bool:=(ops.toList.filterMap (·.dst)).Nodup&&(List.range ops.size).all fun i=>(ops[i]?).all fun o=>o.after.all fun e=>decide (e.on < i)||!Region.binds .any e
def GY(n:Nat)(ops:Array Oper):Bool:=ops.all fun o=>o.dst.all fun t=>decide (t < n)
theorem Qo:∀ {l:List Oper},(l.filterMap (·.dst)).Nodup->∀ {i j:Nat} {c d:Oper} {t:Tmp},l[i]?=some c->l[j]?=some d->c.dst=some t->d.dst=some t->i=j
 |[],_,i,_,_,_,_,h,_,_,_=>by simp at h
 |x::r,hn,i,j,c,d,t,hi,b,di,dj=>by
  have hr:(r.filterMap (·.dst)).Nodup:=by
   rw[List.filterMap_cons] at hn
   split at hn
   ·exact hn
   ·exact (List.nodup_cons.1 hn).2
  have a:∀ {k:Nat} {o:Oper},r[k]?=some o->o.dst=some t->x.dst≠some t:=by
   intro k o f hd e
   rw[List.filterMap_cons,e] at hn
   exact (List.nodup_cons.1 hn).1 (List.mem_filterMap.2 ⟨o,zX f,hd⟩)
  cases i with
  |zero=>
   cases j with
   |zero=>rfl
   |succ j=>
    simp only[xT,za] at hi
    subst hi
    exact (a (by simpa using b) dj di).elim
  |succ i=>
   cases j with
   |zero=>
    simp only[xT,za] at b
    subst b
    exact (a (by simpa using hi) di dj).elim
   |succ j=>exact yF (·+1) (Qo hr (by simpa using hi) (by simpa using b) di dj)
variable{P:Program}{ops:Array Oper}{Q:QT}
theorem MJ{l:Array Bool}{i:Nat}(h:l.getD i false=true):i < l.size:=by
 rcases zU i l.size with a|a
 ·exact a
 ·simp[xE a] at h
def KE(ops:Array Oper):Nat->Nat->Nat->Bool
 |0,_,_=>false
 |f+1,j,i=>(ops[j]?).any fun o=>o.after.any fun e=>Region.binds .any e&&(e.on==i||KE ops f e.on i)
theorem A1{a:Array Bool}(hd:∀m,a.getD m false=true->∀o,ops[m]?=some o->∀e∈o.after,Region.binds .any e=true->a.getD e.on false=true):
  ∀(f j i:Nat),KE ops f j i=true->a.getD j false=true->a.getD i false=true
 |0,_,_,h,_=>by cases h
 |f+1,j,i,h,hj=>by
  rw[KE] at h
  cases c:ops[j]? with
  |none=>rw[c] at h;cases h
  |some o=>
   rw[c,Option.any_some,xV] at h
   obtain ⟨e,g,b⟩:=h
   simp only[yG,Bool.or_eq_true,qr] at b
   have d:=hd j hj o c e g b.1
   rcases b.2 with h2|h2
   ·rw[<-h2];exact d
   ·exact A1 hd f e.on i h2 d
theorem J3.next{H:Act}{s:Array Bool->Array Value->World->Prop}{E:Nat->Value->World->Prop}{P:Nat->World->World->Prop}(x:FI ops=true)(p:GY H.tmps.size ops=true)
 (N:∀i j v w w',j≠i->(∀f,KE ops f j i=false)->P i w w'->E j v w->E j v w'){b:Array Bool}{a:Act}{w:World}(h:J3 ops H s E b a w){i:Nat}{o:Oper}(hi:i∈Region.ready .any ops b)(g:ops[i]?=some o)
 {v:Value}{w':World}(W:s (b.setIfInBounds i true) (a.put o.dst v).tmps w')(I:P i w w')(V:E i v w'):J3 ops H s E (b.setIfInBounds i true) (a.put o.dst v) w':=by
 obtain ⟨q,y,O,A⟩:=xx.1 hi
 obtain rfl:y=o:=yi (O.symm.trans g)
 have D:i < b.size:=by rw[h.size];exact (yd.1 g).1
 have l:∀ {m:Nat},(b.setIfInBounds i true).getD m false=true->m=i∨b.getD m false=true:=by
  intro m d
  by_cases e:i=m
  ·exact .inl e.symm
  ·rw[xk false e] at d;exact .inr d
 unfold FI at x
 rw[yG,z7] at x
 have C:∀ {i j:Nat} {R S:Oper} {t:Tmp},ops[i]?=some R->ops[j]?=some S->R.dst=some t->S.dst=some t->i=j:=fun hi X U T=>
  Qo x.1 (by simpa using hi) (by simpa using X) U T
 have J:∀ {i:Nat} {o:Oper} {t:Tmp},ops[i]?=some o->o.dst=some t->t < H.tmps.size:=by
  intro i o t g hd
  unfold GY at p
  rw[zu] at p
  have:=p o (zV g)
  rw[hd] at this
  simpa using this
 refine ⟨by simp[h.size],?_,W,?_,?_,?_,?_⟩
 ·intro m d B c e z hb
  rcases l d with rfl|d
  ·obtain rfl:=yi (c.symm.trans g)
   exact getD_set_true (A e z hb)
  ·exact getD_set_true (h.down m d B c e z hb)
 ·rw[<-h.defers];unfold Act.put;cases y.dst<;>rfl
 ·rw[<-h.tmps];unfold Act.put;cases y.dst<;>simp
 ·intro m d B t c hd
  by_cases e:m=i
  ·subst e
   obtain rfl:=yi (c.symm.trans g)
   rw[hd,Ax _ (by rw[h.tmps];exact J g hd)]
   exact V
  ·have F:=(l d).resolve_left e
   have M:∀f,KE ops f m i=false:=by
    intro f
    rw[yn]
    intro hb
    have G:=A1 h.down f m i hb F
    simp[D] at q G
    rw[G] at q;cases q
   have n:=N _ _ _ _ _ e M I (h.done m F B t c hd)
   cases r:y.dst with
   |none=>exact n
   |some u=>
    rw[Cj _ (fun L=>e (C c g hd (by rw[r,L])))]
    exact n
 ·intro k Q
  have K:=h.free k (fun m d B c=>Q m (getD_set_true d) B c)
  rw[<-K]
  cases r:y.dst with
  |none=>rfl
  |some u=>
   refine Cj _ (fun L=>?_)
   refine Q i ?_ y g (by rw[r,L])
   simp[D]
theorem KF(c:FI ops=true){a:Array Bool}(hs:a.size=ops.size)(h:Region.ready .any ops a=[]):∀i,i < ops.size->a.getD i false=true:=by
 intro i
 induction i using Nat.strongRecOn with
 |ind i ih=>
  intro hi
  by_cases j:a.getD i false=true
  ·exact j
  ·exfalso
   have f:a.getD i true=false:=by
    have:i < a.size:=by omega
    simp[this] at j ⊢
    exact j
   have b:i∈Region.ready .any ops a:=by
    refine xx.2 ⟨f,ops[i],by simp[hi],fun e k g=>?_⟩
    have d:e.on < i:=by
     unfold FI at c
     rw[yG,yR] at c
     have h1:=c.2 i (zg.2 hi)
     simp only[Array.getElem?_eq_getElem hi,Option.all_some,zu] at h1
     have h2:=h1 e k
     rw[g] at h2
     simpa using h2
    exact ih e.on d (by omega)
   rw[h] at b
   cases b
theorem Re{A:Act}{m:Array Bool->Array Value->World->Prop}{u:Nat->Value->World->Prop}{F:Nat->World->World->Prop}(y:FI ops=true)(B:GY A.tmps.size ops=true)
 (D:∀i j v w w',j≠i->(∀f,KE ops f j i=false)->F i w w'->u j v w->u j v w')
 (s:∀i b a w,J3 ops A m u b a w->i∈Region.ready .any ops b->∀o,ops[i]?=some o->wpOp P ops Q i (fun E w'=>∃v,E=a.put o.dst v∧m (b.setIfInBounds i true) (a.put o.dst v).tmps w'∧F i w w'∧u i v w') a w)
 (q:∀b a w,(∀i,i < ops.size->b.getD i false=true)->J3 ops A m u b a w->Q .normal a w):
  ∀(fuel:Nat) (b:Array Bool) (a:Act) (w:World),(∀i,i < ops.size->b.getD i false=true)∨((List.range ops.size).filter fun i=>!b.getD i false).length<=fuel->J3 ops A m u b a w->wpAny P .any ops Q fuel b a w:=by
 intro fuel
 induction fuel with
 |zero=>
  intro b a w t hM
  have n:∀i,i < ops.size->b.getD i false=true:=by
   rcases t with t|t
   ·exact t
   ·intro i hi
    have h0:=zl.1 (Nat.le_zero.1 t)
    have:=List.filter_eq_nil_iff.1 h0 i (zg.2 hi)
    simpa using this
  refine ⟨?_,q _ _ _ n hM⟩
  cases hr:Region.ready .any ops b with
  |nil=>rfl
  |cons i r=>
   exfalso
   have hi:i∈Region.ready .any ops b:=by rw[hr];simp
   obtain ⟨c,o,z,_⟩:=xx.1 hi
   have d:=(yd.1 z).1
   have:=n i d
   have k:i < b.size:=by rw[hM.size];exact d
   simp[k] at c this
   rw[this] at c;cases c
 |succ fuel ih=>
  intro b a w t hM
  refine ⟨fun hr=>q _ _ _ (KF y hM.size hr) hM,fun i hi=>?_⟩
  obtain ⟨c,o,z,_⟩:=xx.1 hi
  have d:=(yd.1 z).1
  have k:i < b.size:=by rw[hM.size];exact d
  have g:b.getD i false=false:=by simp[k] at c ⊢;exact c
  refine wpOp_mono (fun E w' K=>?_) (s i b a w hM hi o z)
  obtain ⟨v,rfl,I,C,H⟩:=K
  refine ih _ _ _ (.inr ?_) (hM.next y B D hi z I C H)
  have J:=t.resolve_left (fun h=>by rw[h i d] at g;cases g)
  have x:((List.range ops.size).filter fun j=>!(b.setIfInBounds i true).getD j false)=((List.range ops.size).filter fun j=>!b.getD j false).filter fun j=>decide (j≠i):=by
   rw[List.filter_filter]
   refine List.filter_congr fun j _=>?_
   by_cases e:i=j
   ·subst e;simp[k]
   ·rw[xk false e];simp[xi e]
  rw[x]
  have G:=(List.length_filter_lt_length_iff_exists (p:=fun j=>decide (j≠i)) (l:=(List.range ops.size).filter fun j=>!b.getD j false)).2 ⟨i,List.mem_filter.2 ⟨zg.2 d,by rw[g];rfl⟩,by simp⟩
  omega
theorem Lv{id:Nat}{h:Act}{s:World}(u:P.follows .mixedOrders=true)(d:Array Bool->Array Value->World->Prop)(l:Nat->Value->World->Prop)(r:Nat->World->World->Prop)(q:FI ops=true)(n:GY h.tmps.size ops=true)
 (p:∀i j v w w',j≠i->(∀f,KE ops f j i=false)->r i w w'->l j v w->l j v w')(h0:d (Array.replicate ops.size false) h.tmps s.drew)
 (g:∀i b a w,J3 ops h d l b a w->i∈Region.ready .any ops b->∀o,ops[i]?=some o->wpOp P ops Q i (fun t w'=>∃v,t=a.put o.dst v∧d (b.setIfInBounds i true) (a.put o.dst v).tmps w'∧r i w w'∧l i v w') a w)
 (k:∀b a w,(∀i,i < ops.size->b.getD i false=true)->J3 ops h d l b a w->Q .normal a w):(Code.region id ops true).wp P Q h s:=by
 refine wp_region_any u ?_
 have e:∀i,(Array.replicate ops.size false).getD i false=false:=fun i=>by
  simp[Array.getElem?_replicate];split<;>rfl
 refine Re q n p g k ops.size _ h _ (.inr ?_) ⟨by simp,fun m c=>?_,h0,rfl,rfl,fun m c=>?_,fun _ _=>rfl⟩
 ·exact yu (List.length_filter_le _ _) (by simp)
 ·rw[e] at c;cases c
 ·rw[e] at c;cases c
def CS(id:Nat):Code->Option (Array Oper)
 |.region i ops _=>if i=id then some ops else none
 |.seq x y=>(CS id x).or (CS id y)
 |.cond _ x y=>(CS id x).or (CS id y)
 |.block _ x=>CS id x
 |.loop x=>CS id x
 |.rangeFunc _ _ x y=>(CS id x).or (CS id y)
 |.scope x=>CS id x
 |_=>none
def DN(f:Func)(id:Nat):Option (Array Oper):=f.body.bind (CS id)
def SH(c:Array Value->World->Prop)(e:World->World->Prop)(f:Value->World->Prop)(b:Option Tmp)(a:Act)(w:World)(d:Act)(w':World):Prop:=
 ∃v,d=a.put b v∧c (a.put b v).tmps w'∧e w w'∧f v w'
def MK(ops:Array Oper):Bool:=ops.all fun o=>o.guard.isNone
theorem BR{id:Nat}{h:Act}{r:World}(t:P.follows .mixedOrders=true)(c:Array Bool->Array Value->World->Prop)(g:Nat->Value->World->Prop)(m:Nat->World->World->Prop)(p:FI ops=true)(l:GY h.tmps.size ops=true)
 (d:MK ops=true)(n:∀i j v w w',j≠i->(∀f,KE ops f j i=false)->m i w w'->g j v w->g j v w')(h0:c (Array.replicate ops.size false) h.tmps r.drew)
 (e:∀i b a w,J3 ops h c g b a w->i∈Region.ready .any ops b->∀o,ops[i]?=some o->o.wp P a w (SH (c (b.setIfInBounds i true)) (m i) (g i) o.dst a w) Q)
 (k:∀b a w,(∀i,i < ops.size->b.getD i false=true)->J3 ops h c g b a w->Q .normal a w):(Code.region id ops true).wp P Q h r:=by
 refine Lv t c g m p l n h0 (fun i b a w hM hi o q=>?_) k
 unfold wpOp
 rw[q]
 have u:o.guard=none:=by
  unfold MK at d
  rw[zu] at d
  simpa using d o (zV q)
 have s:Region.wanted o (yielded ops a.tmps)=true:=by simp[Region.wanted,u]
 simp only[s,zD]
 exact .inl (e i b a w hM hi o q)
theorem J3.dep{n:Act}{k:Array Bool->Array Value->World->Prop}{l:Nat->Value->World->Prop}{b:Array Bool}{a:Act}{w:World}(h:J3 ops n k l b a w){i:Nat}(hi:i∈Region.ready .any ops b)
 (j:Nat)(t:Tmp)(hb:((ops[i]?).any fun o=>o.after.any fun e=>e.on==j&&Region.binds .any e)=true)(hd:(ops[j]?).bind (·.dst)=some t):l j (a.tmps[t]?.getD undef) w:=by
 rw[<-yE]
 obtain ⟨_,o,p,d⟩:=xx.1 hi
 rw[p,Option.any_some,xV] at hb
 obtain ⟨e,m,c⟩:=hb
 simp only[yG,qr] at c
 obtain ⟨rfl,g⟩:=c
 cases f:ops[e.on]? with
 |none=>rw[f] at hd;cases hd
 |some oj=>
  rw[f,xu] at hd
  exact h.done e.on (d e m g) oj t f hd
theorem J3.came{g:Act}{f:Array Bool->Array Value->World->Prop}{k:Nat->Value->World->Prop}{b:Array Bool}{a:Act}{w:World}(_:J3 ops g f k b a w){i:Nat}(hi:i∈Region.ready .any ops b)
 (j:Nat)(hb:((ops[i]?).any fun o=>o.after.any fun e=>e.on==j&&Region.binds .any e)=true):b.getD j false=true:=by
 obtain ⟨_,o,l,d⟩:=xx.1 hi
 rw[l,Option.any_some,xV] at hb
 obtain ⟨e,h,c⟩:=hb
 simp only[yG,qr] at c
 rw[<-c.1]
 exact d e h c.2
theorem J3.not_yet{f:Act}{e:Array Bool->Array Value->World->Prop}{g:Nat->Value->World->Prop}{b:Array Bool}{a:Act}{w:World}(h:J3 ops f e g b a w){i:Nat}(hi:i∈Region.ready .any ops b):b.getD i false=false:=by
 obtain ⟨c,o,j,_⟩:=xx.1 hi
 have d:i < b.size:=by rw[h.size];exact (yd.1 j).1
 simp[d] at c ⊢
 exact c
theorem J3.old{p:Act}{l:Array Bool->Array Value->World->Prop}{s:Nat->Value->World->Prop}{b:Array Bool}{a:Act}{w:World}(h:J3 ops p l s b a w){i:Nat}(hi:i∈Region.ready .any ops b)
 (k:Tmp)(hb:(ops.all fun o=>o.dst !=some k||o.after.any fun e=>e.on==i&&Region.binds .any e)=true)(v:Value)(q:p.tmps.getD k undef=v):a.tmps[k]?.getD undef=v:=by
 rw[<-yE,<-q]
 refine h.free k fun m t n g hd=>?_
 rw[zu] at hb
 have:=hb n (zV g)
 rw[hd] at this
 simp only[bne_self_eq_false,Bool.false_or,xV] at this
 obtain ⟨e,r,f⟩:=this
 simp only[yG,qr] at f
 have c:=h.down m t n g e r f.2
 rw[f.1] at c
 have d:=(xx.1 hi).1
 have j:=MJ c
 simp[j] at d c
 rw[c] at d;cases d
theorem Gp{a b:Act}(D:List Nat)(hs:a.tmps.size=b.tmps.size)(hd:a.defers=b.defers)(g:∀k,k∉D->a.tmps.getD k undef=b.tmps.getD k undef):
  a={tmps:=D.foldl (fun t k=>t.setIfInBounds k (a.tmps.getD k undef)) b.tmps,defers:=b.defers}:=by
 have f:∀(D:List Nat) (t:Array Value),t.size=a.tmps.size->(∀k,k∉D->a.tmps.getD k undef=t.getD k undef)->a.tmps=D.foldl (fun t k=>t.setIfInBounds k (a.tmps.getD k undef)) t:=by
  intro D
  induction D with
  |nil=>
   intro t c h
   apply Array.ext c.symm
   intro i h1 h2
   have:=h i (by simp)
   simpa[h1,h2] using this
  |cons x r ih=>
   intro t c h
   rw[qm]
   refine ih _ (by simp[c]) fun k l=>?_
   by_cases e:x=k
   ·subst e
    by_cases j:x < t.size
    ·simp[j]
    ·simp[xE (show a.tmps.size<=x by omega)]
   ·rw[h k (by simp[l,xi e])]
    simp[e]
 obtain ⟨t,d⟩:=a
 simp only at hd
 subst hd
 exact yF (fun t=>({tmps:=t,defers:=b.defers}:Act)) (f D b.tmps hs.symm g)
end Go.Proofs.YtjofgpfocadomaaGreatDoor
namespace Go.Proofs.YtjofgpfocadomaaGreatDoor
open Go.RowKit
structure Rt where
 n:Int
 d:Int
def IP:Rt:=⟨0,0⟩
def Dr:Int:=1073741824
def BI(a:Rt):Bool:=decide (1<=a.d)&&(decide (a.d<=Dr)&&(decide (-Dr<=a.n)&&(decide (a.n<=Dr)&&decide (Int.gcd a.n a.d=1))))
def Gw(n d:Int):Rt × Int:=
 if d=0 then (IP,120)
 else if Dr < max ((n.natAbs / Int.gcd n d:Nat):Int) ((d.natAbs / Int.gcd n d:Nat):Int) then (IP,2)
 else (⟨if (decide (n < 0) !=decide (d < 0))=true then -((n.natAbs / Int.gcd n d:Nat):Int) else ((n.natAbs / Int.gcd n d:Nat):Int),((d.natAbs / Int.gcd n d:Nat):Int)⟩,0)
def Em(op:Int)(a b:Rt):Int × Int:=
 if op=3 then (a.n*b.d+b.n*a.d,a.d*b.d) else if op=4 then (a.n*b.d - b.n*a.d,a.d*b.d) else if op=5 then (a.n*b.n,a.d*b.d) else (a.n*b.d,a.d*b.n)
def O1(op:Int)(a b:Rt):Rt × Int:=if (BI a&&BI b)=true then Gw (Em op a b).1 (Em op a b).2 else (IP,120)
structure Dm where
 l:Int
 h:Int
 a:Int
deriving DecidableEq
def O4:Dm:=⟨0,0,0⟩
def S2(n:Int):Bool:=decide (-4<=n)&&decide (n<=4)
def Gx(d:Dm):Bool:=S2 d.l&&(S2 d.h&&S2 d.a)
def MN(s:Int)(a b:Dm):Dm:=⟨a.l+s*b.l,a.h+s*b.h,a.a+s*b.a⟩
def JU(op:Int)(a b:Dm):Dm × Bool:=
 if op=3∨op=4 then (a,decide (a=b)) else
 let d:=MN (if op=5 then 1 else -1) a b
 if Gx d then (d,true) else (O4,false)
structure Qn where
 dim:Dm
 v:Rt
 e:Int
def Fm:Qn:=⟨O4,IP,0⟩
structure Kn where
 name:ByteArray
 q:Qn
 ok:Bool
def H2(u:Int):Dm:=if u=1∨u=2 then ⟨1,0,0⟩ else if u=3∨u=4 then ⟨0,1,0⟩ else if u=5 then ⟨0,0,1⟩ else O4
def G5(u:Int):Int:=if u=2 then 1000 else if u=4 then 24 else 1
def O5:Int:=1099511627776
def O6(n u:Int):Qn:=if Dr / G5 u < n then ⟨H2 u,IP,2⟩ else ⟨H2 u,⟨G5 u*n,1⟩,0⟩
def CT(rn:ByteArray)(ri:Int):Bool:=decide (rn.size=0∧ri=0)
def S3(op:Int)(a b:Qn × Bool):Qn × Bool:=
 if (a.2&&b.2)=true then
  (let d:=JU op a.1.dim b.1.dim
  if d.2=true then
   (if a.1.e≠0 then (⟨d.1,IP,a.1.e⟩,true) else if b.1.e≠0 then (⟨d.1,IP,b.1.e⟩,true) else (⟨d.1,(O1 op a.1.v b.1.v).1,(O1 op a.1.v b.1.v).2⟩,true))
  else (Fm,false))
 else (Fm,false)
def Js(a:List Kn)(rn:ByteArray)(ri:Int):Qn × Bool:=match a[ri.toNat]? with
 |some k=>if k.name=rn∧0<=ri then (k.q,k.ok) else (Fm,false)
 |none=>(Fm,false)
def TW(op n u:Int)(rn:ByteArray)(ri:Int):Bool:=decide (3<=op)&&(decide (op<=6)&&(decide (n=0)&&(decide (u=0)&&CT rn ri)))
def EE(a:List Kn):Nat->Ex->Qn × Bool
 |left,.mk op n u rn ri args=>
  if op=1 then (if args.length=0∧CT rn ri=true∧0<=n∧n<=O5∧0<=u∧u<=5 then (O6 n u,true) else (Fm,false))
  else if op=2 then (if args.length=0∧n=0∧u=0 then Js a rn ri else (Fm,false))
  else match left,args with
   |left+1,[x,y]=>if TW op n u rn ri=true then S3 op (EE a left x) (EE a left y) else (Fm,false)
   |_,_=>(Fm,false)
def Aq:List Kn->List (ByteArray × Ex)->List Kn
 |l,[]=>l
 |l,d::r=>Aq (l++[⟨d.1,(EE l 8 d.2).1,(EE l 8 d.2).2⟩]) r
def Dq:Nat->Ex->Ex
 |left+1,.mk op n u rn ri [x,y]=>.mk op n u rn ri (if op=3∨op=5 then [Dq left y,Dq left x] else [Dq left x,Dq left y])
 |_,e=>e
def I8(a b:Qn × Bool):Prop:=a.2=b.2∧a.1.dim=b.1.dim∧a.1.v=b.1.v∧(a.1.e=0↔b.1.e=0)
theorem B8(a:Qn × Bool):I8 a a:=⟨rfl,rfl,rfl,Iff.rfl⟩
theorem SM{op:Int}(c:op=3∨op=5)(a b:Rt):Em op a b=Em op b a:=by
 unfold Em
 rcases c with rfl|rfl
 ·simp only[zD]
  rw[Int.add_comm,Int.mul_comm a.d b.d]
 ·simp only[show ¬(5:Int)=3 by decide,show ¬(5:Int)=4 by decide,qd,zD]
  rw[Int.mul_comm a.n b.n,Int.mul_comm a.d b.d]
theorem TX{op:Int}(c:op=3∨op=5)(a b:Rt):O1 op a b=O1 op b a:=by
 unfold O1
 rw[SM c a b,Bool.and_comm]
theorem SN(a b:Dm):MN 1 a b=MN 1 b a:=by
 unfold MN
 simp only[Int.one_mul,Dm.mk.injEq]
 omega
theorem SO{op:Int}(c:op=3∨op=5)(a b:Dm):(JU op a b).2=(JU op b a).2∧((JU op a b).2=true->(JU op a b).1=(JU op b a).1):=by
 unfold JU
 rcases c with rfl|rfl
 ·simp only[true_or,zD]
  refine ⟨?_,fun h=>?_⟩
  ·rw[xA];simp only[z7];exact eq_comm
  ·simpa using h
 ·simp only[show ¬((5:Int)=3∨(5:Int)=4) by decide,qd,zD,SN a b]
  exact ⟨trivial,fun _=>trivial⟩
theorem Mc{op:Int}{a b c d:Qn × Bool}(h:I8 a c)(k:I8 b d):I8 (S3 op a b) (S3 op c d):=by
 obtain ⟨h1,h2,h3,l⟩:=h
 obtain ⟨o,n,p,m⟩:=k
 unfold S3
 rw[h1,o,h2,n]
 by_cases hb:(c.2&&d.2)=true
 ·rw[yw hb,yw hb]
  simp only
  by_cases hd:(JU op c.1.dim d.1.dim).2=true
  ·rw[yw hd,yw hd]
   by_cases i:c.1.e=0
   ·have f:a.1.e=0:=l.2 i
    by_cases j:d.1.e=0
    ·have g:b.1.e=0:=m.2 j
     simp only[ne_eq,i,f,j,g,not_true_eq_false,qd,h3,p]
     exact B8 _
    ·have g:¬ b.1.e=0:=fun e=>j (m.1 e)
     simp only[ne_eq,i,f,j,g,not_true_eq_false,not_false_eq_true,qd,zD]
     exact ⟨rfl,rfl,rfl,by simp only;exact m⟩
   ·have f:¬ a.1.e=0:=fun e=>i (l.1 e)
    simp only[ne_eq,i,f,not_false_eq_true,zD]
    exact ⟨rfl,rfl,rfl,by simp only;exact l⟩
  ·rw[yt hd,yt hd];exact B8 _
 ·rw[yt hb,yt hb];exact B8 _
theorem SP{op:Int}(i:op=3∨op=5)(a b:Qn × Bool):I8 (S3 op a b) (S3 op b a):=by
 obtain ⟨g,j⟩:=SO i a.1.dim b.1.dim
 unfold S3
 rw[Bool.and_comm b.2 a.2]
 by_cases hb:(a.2&&b.2)=true
 ·rw[yw hb,yw hb]
  simp only
  by_cases hd:(JU op a.1.dim b.1.dim).2=true
  ·have d:(JU op b.1.dim a.1.dim).2=true:=by rw[<-g];exact hd
   rw[yw hd,yw d,j hd,TX i a.1.v b.1.v]
   by_cases f:a.1.e=0
   ·rw[yt (by simpa using f)]
    by_cases c:b.1.e=0
    ·rw[yt (by simpa using c),yt (by simpa using c),yt (by simpa using f)];exact B8 _
    ·rw[yw c,yw c];exact B8 _
   ·rw[yw f]
    by_cases c:b.1.e=0
    ·rw[yt (by simpa using c),yw f];exact B8 _
    ·rw[yw c]
     exact ⟨rfl,rfl,rfl,by simp only;exact ⟨fun h=>absurd h f,fun h=>absurd h c⟩⟩
  ·have d:¬ (JU op b.1.dim a.1.dim).2=true:=by rw[<-g];exact hd
   rw[yt hd,yt d];exact B8 _
 ·rw[yt hb,yt hb];exact B8 _
theorem I8.trans{a b c:Qn × Bool}(h:I8 a b)(k:I8 b c):I8 a c:=⟨h.1.trans k.1,h.2.1.trans k.2.1,h.2.2.1.trans k.2.2.1,h.2.2.2.trans k.2.2.2⟩
theorem Ij(a:List Kn):∀(k l:Nat) (e:Ex),I8 (EE a l (Dq k e)) (EE a l e)
 |0,l,e=>by cases e;exact B8 _
 |k+1,l,.mk op n u rn ri args=>by
  match args with
  |[]=>exact B8 _
  |[x]=>exact B8 _
  |x::y::z::r=>exact B8 _
  |[x,y]=>
   rw[Dq]
   by_cases h1:op=1
   ·subst h1
    simp only[show ¬((1:Int)=3∨(1:Int)=5) by decide,qd]
    cases l<;>simp only[EE,zD,yx,yH]<;>exact B8 _
   ·by_cases h2:op=2
    ·subst h2
     simp only[show ¬((2:Int)=3∨(2:Int)=5) by decide,qd]
     cases l<;>simp only[EE,zD,yx,yH,h1,qd]<;>exact B8 _
    ·cases l with
     |zero=>
      split<;>simp only[EE,yt h1,yt h2]<;>exact B8 _
     |succ l=>
      have c:=Ij a k l x
      have d:=Ij a k l y
      by_cases b:op=3∨op=5
      ·rw[yw b]
       simp only[EE,yt h1,yt h2]
       split
       ·exact (Mc d c).trans (SP b _ _)
       ·exact B8 _
      ·rw[yt b]
       simp only[EE,yt h1,yt h2]
       split
       ·exact Mc c d
       ·exact B8 _
theorem MO(a:List Kn)(l:Nat)(n u:Int)(rn:ByteArray)(ri:Int)(args:List Ex):EE a l (.mk 1 n u rn ri args)=if args.length=0∧CT rn ri=true∧0<=n∧n<=O5∧0<=u∧u<=5 then (O6 n u,true) else (Fm,false):=by
 unfold EE
 rfl

def E8(a b:Nat):List Nat:=
 if a=0 then [] else if _h:b=0 then [a,0] else a::(if a % b=0 then [b] else E8 b (a % b))
 termination_by b
 decreasing_by exact Nat.mod_lt _ (Nat.pos_of_ne_zero (by assumption))
def I9(d:Nat):List Nat->Nat
 |[]=>d
 |x::r=>I9 x r
theorem O7{l:List Nat}(h:l≠ [])(d e:Nat):I9 d l=I9 e l:=by
 cases l with
 |nil=>exact absurd rfl h
 |cons x r=>rfl
theorem Qr{a b:Nat}(h:a≠0):E8 a b≠ []:=by
 rw[E8,yt h]
 split<;>simp
theorem SQ:∀(b a:Nat),b≠0->I9 b (E8 a b)=Nat.gcd a b:=by
 intro b
 induction b using Nat.strongRecOn with
 |_ b ih=>
  intro a hb
  rw[E8]
  by_cases d:a=0
  ·rw[yw d,d,Nat.gcd_zero_left];rfl
  ·rw[yt d,dif_neg hb]
   by_cases c:a % b=0
   ·rw[yw c]
    show b=Nat.gcd a b
    exact (Nat.gcd_eq_right (Nat.dvd_of_mod_eq_zero c)).symm
   ·rw[yt c]
    show I9 a (E8 b (a % b))=Nat.gcd a b
    rw[O7 (Qr hb) a (a % b),ih (a % b) (Nat.mod_lt _ (Nat.pos_of_ne_zero hb)) b c,Nat.gcd_comm a b,Nat.gcd_rec b a,Nat.gcd_comm]
mutual
def SY(k:Nat):Ex->Prop
 |.mk op _ _ _ ri args=>(op=2->0<=ri∧ri < (k:Int))∧Qs k args
def Qs(k:Nat):List Ex->Prop
 |[]=>True
 |e::r=>SY k e∧Qs k r
end
theorem MT(a:List Kn)(l:Nat)(n u:Int)(rn:ByteArray)(ri:Int)(args:List Ex):EE a l (.mk 2 n u rn ri args)=if args.length=0∧n=0∧u=0 then Js a rn ri else (Fm,false):=by
 unfold EE
 rfl
theorem MU(a:List Kn)(l:Nat){op:Int}(h1:op≠1)(h2:op≠2)(n u:Int)(rn:ByteArray)(ri:Int)(x y:Ex):EE a (l+1) (.mk op n u rn ri [x,y])=if TW op n u rn ri=true then S3 op (EE a l x) (EE a l y) else (Fm,false):=by
 conv=>lhs;unfold EE
 rw[yt h1,yt h2]
theorem JX(a:List Kn)(l:Nat){op:Int}(h1:op≠1)(h2:op≠2)(n u:Int)(rn:ByteArray)(ri:Int)(args:List Ex)(h:l=0∨args.length≠2):EE a l (.mk op n u rn ri args)=(Fm,false):=by
 conv=>lhs;unfold EE
 rw[yt h1,yt h2]
 match l,args,h with
 |0,_,_=>rfl
 |l+1,[],_=>rfl
 |l+1,[x],_=>rfl
 |l+1,[x,y],h=>rcases h with h|h<;>simp at h
 |l+1,x::y::z::r,_=>rfl
theorem Hs:∀(ds:List (ByteArray × Ex)) (l:List Kn),(Aq l ds).length=l.length+ds.length
 |[],l=>by rw[Aq];simp
 |d::r,l=>by rw[Aq,Hs r];simp;omega
section
variable{lets:List (ByteArray × Ex)}(hr:∀(i:Nat) d,lets[i]?=some d->SY i d.2)
include hr
end
end Go.Proofs.YtjofgpfocadomaaGreatDoor
namespace Go.Proofs.YtjofgpfocadomaaGreatDoor
open Go
theorem PC{P:Program}{o:Oper}{a:Act}{w:World}{K:Act->World->Prop}{Q:QT}{l n:Nat}(hd:∀c,o.op≠.defer c)(h:Oper.wp P o a w K Q):Oper.wpIn (Fence.wide.inRound l) n P o a w K Q:=by
 refine ⟨fun _ _=>trivial,?_⟩
 rw[Fence.inRound_round,zE l a.eval o hd]
 unfold Oper.wp at h
 generalize (execOp a.eval o).run P w=r at h ⊢
 cases r with
 |ok x w'=>
  cases x with
  |value v=>exact h
  |skip=>exact h
  |defer d=>exact h
  |enter f args=>exact ⟨fun h=>(by cases h),z6.2 h⟩
  |row r args=>exact ⟨fun h=>(by cases h),fun c cs _=>let ⟨v,w2,q,s⟩:=h c cs;⟨v,w2,q,stepsIn_wide.2 s⟩⟩
  |_=>exact h.elim
 |halt x w'=>cases x<;>exact h
def UB(ops:Array Oper):Bool:=ops.all fun o=>match o.op with
 |.defer _=>false
 |_=>true
section
variable{F:Fence}{n:Nat}{P:Program}{ops:Array Oper}{Q:QT}
theorem Oi{B:Act}{m:Array Bool->Array Value->World->Prop}{x:Nat->Value->World->Prop}{H:Nat->World->World->Prop}(z:FI ops=true)(C:GY B.tmps.size ops=true)
 (E:∀i j v w w',j≠i->(∀f,KE ops f j i=false)->H i w w'->x j v w->x j v w')
 (t:∀i b a w,J3 ops B m x b a w->i∈Region.ready .any ops b->∀o,ops[i]?=some o->wpOpIn F n P ops Q i (fun G w'=>∃v,G=a.put o.dst v∧m (b.setIfInBounds i true) (a.put o.dst v).tmps w'∧H i w w'∧x i v w') a w)
 (s:∀b a w,(∀i,i < ops.size->b.getD i false=true)->J3 ops B m x b a w->Q .normal a w):
  ∀(fuel:Nat) (b:Array Bool) (a:Act) (w:World),(∀i,i < ops.size->b.getD i false=true)∨((List.range ops.size).filter fun i=>!b.getD i false).length<=fuel->J3 ops B m x b a w->wpAnyIn F n P .any ops Q fuel b a w:=by
 intro fuel
 induction fuel with
 |zero=>
  intro b a w u hM
  have q:∀i,i < ops.size->b.getD i false=true:=by
   rcases u with u|u
   ·exact u
   ·intro i hi
    have h0:=zl.1 (Nat.le_zero.1 u)
    have:=List.filter_eq_nil_iff.1 h0 i (zg.2 hi)
    simpa using this
  refine ⟨?_,s _ _ _ q hM⟩
  cases hr:Region.ready .any ops b with
  |nil=>rfl
  |cons i r=>
   exfalso
   have hi:i∈Region.ready .any ops b:=by rw[hr];simp
   obtain ⟨c,o,A,_⟩:=xx.1 hi
   have d:=(yd.1 A).1
   have:=q i d
   have k:i < b.size:=by rw[hM.size];exact d
   simp[k] at c this
   rw[this] at c;cases c
 |succ fuel ih=>
  intro b a w u hM
  refine ⟨fun hr=>s _ _ _ (KF z hM.size hr) hM,fun i hi=>?_⟩
  obtain ⟨c,o,A,_⟩:=xx.1 hi
  have d:=(yd.1 A).1
  have k:i < b.size:=by rw[hM.size];exact d
  have g:b.getD i false=false:=by simp[k] at c ⊢;exact c
  refine wpOpIn_mono (fun G w' M=>?_) (t i b a w hM hi o A)
  obtain ⟨v,rfl,K,D,J⟩:=M
  refine ih _ _ _ (.inr ?_) (hM.next z C E hi A K D J)
  have L:=u.resolve_left (fun h=>by rw[h i d] at g;cases g)
  have y:((List.range ops.size).filter fun j=>!(b.setIfInBounds i true).getD j false)=((List.range ops.size).filter fun j=>!b.getD j false).filter fun j=>decide (j≠i):=by
   rw[List.filter_filter]
   refine List.filter_congr fun j _=>?_
   by_cases e:i=j
   ·subst e;simp[k]
   ·rw[xk false e];simp[xi e]
  rw[y]
  have I:=(List.length_filter_lt_length_iff_exists (p:=fun j=>decide (j≠i)) (l:=(List.range ops.size).filter fun j=>!b.getD j false)).2 ⟨i,List.mem_filter.2 ⟨zg.2 d,by rw[g];rfl⟩,by simp⟩
  omega
theorem JH{id:Nat}{h:Act}{t:World}(x:P.follows .mixedOrders=true)(d:Array Bool->Array Value->World->Prop)(l:Nat->Value->World->Prop)(s:Nat->World->World->Prop)(r:FI ops=true)(p:GY h.tmps.size ops=true)
 (q:∀i j v w w',j≠i->(∀f,KE ops f j i=false)->s i w w'->l j v w->l j v w')(h0:d (Array.replicate ops.size false) h.tmps t.drew)
 (g:∀i b a w,J3 ops h d l b a w->i∈Region.ready .any ops b->∀o,ops[i]?=some o->wpOpIn F n P ops Q i (fun u w'=>∃v,u=a.put o.dst v∧d (b.setIfInBounds i true) (a.put o.dst v).tmps w'∧s i w w'∧l i v w') a w)
 (k:∀b a w,(∀i,i < ops.size->b.getD i false=true)->J3 ops h d l b a w->Q .normal a w):(Code.region id ops true).wpIn F n P Q h t:=by
 refine wpIn_region_any x ?_
 have e:∀i,(Array.replicate ops.size false).getD i false=false:=fun i=>by
  simp[Array.getElem?_replicate];split<;>rfl
 refine Oi r p q g k ops.size _ h _ (.inr ?_) ⟨by simp,fun m c=>?_,h0,rfl,rfl,fun m c=>?_,fun _ _=>rfl⟩
 ·exact yu (List.length_filter_le _ _) (by simp)
 ·rw[e] at c;cases c
 ·rw[e] at c;cases c
end
section
variable{n:Nat}{P:Program}{ops:Array Oper}{Q:QT}
theorem G7{id l:Nat}{m:Act}{x:World}(z:P.follows .mixedOrders=true)(d:Array Bool->Array Value->World->Prop)(k:Nat->Value->World->Prop)(s:Nat->World->World->Prop)(u:FI ops=true)(r:GY m.tmps.size ops=true)
 (g:MK ops=true)(e:UB ops=true)(t:∀i j v w w',j≠i->(∀f,KE ops f j i=false)->s i w w'->k j v w->k j v w')(h0:d (Array.replicate ops.size false) m.tmps x.drew)
 (h:∀i b a w,J3 ops m d k b a w->i∈Region.ready .any ops b->∀o,ops[i]?=some o->o.wp P a w (SH (d (b.setIfInBounds i true)) (s i) (k i) o.dst a w) Q)
 (p:∀b a w,(∀i,i < ops.size->b.getD i false=true)->J3 ops m d k b a w->Q .normal a w):(Code.region id ops true).wpIn (Fence.wide.inRound l) n P Q m x:=by
 refine JH z d k s u r t h0 (fun i b a w hM hi o q=>?_) p
 unfold wpOpIn
 rw[q]
 have B:o.guard=none:=by
  unfold MK at g
  rw[zu] at g
  simpa using g o (zV q)
 have y:Region.wanted o (yielded ops a.tmps)=true:=by simp[Region.wanted,B]
 simp only[y,zD]
 refine PC (fun c A=>?_) (h i b a w hM hi o q)
 unfold UB at e
 rw[zu] at e
 have h2:=e o (zV q)
 rw[A] at h2
 cases h2
end
end Go.Proofs.YtjofgpfocadomaaGreatDoor
namespace Go.Proofs.YtjofgpfocadomaaGreatDoor
open Go.RowKit
section
variable{P:Program}{ops:Array Oper}{rest:List Oper}{o:Oper}{a:Act}{w:World}{Q:QT}
theorem KW(b:o.guard=none)(ty:TypeId)(x:Operand)(c:o.op=.box ty x)(cs:Array Value)(e:a.eval x=.agg cs)
 (h:wpList P ops Q rest (a.put o.dst (.pointer (some ⟨w.heap.size,0,none⟩))) (w.alloc (.cells cs ty))):wpList P ops Q (o::rest) a w:=
 zx b fun K d=>by
  unfold Oper.wp execOp
  simp only[c,e,Instr.box,newVar,newRow,Value.cells,xt,run_newObj_alloc,Sem.run_pure,xY]
  exact d _ _ h
theorem DA(f:o.guard=none)(t e:TypeId)(x:Operand)(p:o.op=.buildSlice t 1 #[(0,x)])(cs:LV)(m:a.eval x=.agg cs.toArray)
 (n:Nat)(j:P.underlying t=some (.slice e))(hi:((P.info? e).bind fun i=>i.zero.map fun z=>(i.size,z.cells.size))=some (n,n))(l:cs.length=n)(c:0 < n)(d:n<=1000)
 (h:wpList P ops Q rest (a.put o.dst (.slice (some ⟨w.heap.size,0,none⟩) 1 1)) (w.alloc (.cells cs.toArray e))):wpList P ops Q (o::rest) a w:=by
 cases b:P.info? e with
 |none=>simp[b] at hi
 |some ie=>
  cases g:ie.zero with
  |none=>simp[b,g] at hi
  |some z=>
   simp only[b,g,xu,xB,za,zr] at hi
   obtain ⟨h1,h2⟩:=hi
   refine wpList_buildSlice f t e 1 _ p _ ie z j b g (by rw[h1];omega) (by rw[h1];omega) ?_ h
   have hs:((Array.range (1*ie.size)).map (z.cells[· % z.cells.size]!)).size=1*n:=by simp[h1]
   rw[h1] at hs ⊢
   generalize (Array.range (1*n)).map (z.cells[· % z.cells.size]!)=k at hs ⊢
   have:=Great.fill_whole (s:=n) c [.agg cs.toArray] k (by simp[Value.cells,l]) (by rw[hs];rfl)
   simp only[xP,List.zipIdx_nil,zv,zT,yW,zt,yV,Value.cells] at this
   simpa[m] using this
theorem Eu(f:o.guard=none)(t e:TypeId)(x y:Operand)(r:o.op=.buildSlice t 2 #[(0,x),(1,y)])(c0 c1:LV)(q:a.eval x=.agg c0.toArray)(k:a.eval y=.agg c1.toArray)
 (n:Nat)(l:P.underlying t=some (.slice e))(hi:((P.info? e).bind fun i=>i.zero.map fun z=>(i.size,z.cells.size))=some (n,n))(p:c0.length=n)(j:c1.length=n)(c:0 < n)(d:n<=1000)
 (h:wpList P ops Q rest (a.put o.dst (.slice (some ⟨w.heap.size,0,none⟩) 2 2)) (w.alloc (.cells (c0++c1).toArray e))):wpList P ops Q (o::rest) a w:=by
 cases b:P.info? e with
 |none=>simp[b] at hi
 |some ie=>
  cases g:ie.zero with
  |none=>simp[b,g] at hi
  |some z=>
   simp only[b,g,xu,xB,za,zr] at hi
   obtain ⟨h1,h2⟩:=hi
   refine wpList_buildSlice f t e 2 _ r _ ie z l b g (by rw[h1];omega) (by rw[h1];omega) ?_ h
   have hs:((Array.range (2*ie.size)).map (z.cells[· % z.cells.size]!)).size=2*n:=by simp[h1]
   rw[h1] at hs ⊢
   generalize (Array.range (2*n)).map (z.cells[· % z.cells.size]!)=m at hs ⊢
   have:=Great.fill_whole (s:=n) c [.agg c0.toArray,.agg c1.toArray] m (by simp[Value.cells,p,j]) (by rw[hs];rfl)
   simp only[xP,List.zipIdx_nil,zv,zT,yW,zt,yV,Value.cells] at this
   simpa[q,k] using this
end
theorem LF{v:Value}(a:v.cells=#[v])(ty:TypeId)(p:Addr):storeVar ty p v=storeVar ty p (.agg #[v]):=by
 unfold storeVar
 rw[a]
 rfl
theorem GH{P:Program}{ops:Array Oper}{rest:List Oper}{op:Oper}{a:Act}{w:World}{Q:QT}(c:op.guard=none)(ty:TypeId)(x y:Operand)(j:op.op=.store ty x y)
 (b o:Nat)(v:Value)(i:a.eval x=.pointer (some ⟨b,o,none⟩))(d:a.eval y=v)(e:v.cells=#[v])
 (g:w.there b o 1)(hi:(P.info? ty).map (·.size)=some 1)(h1:v.oneCell'=true)
 (h:wpList P ops Q rest (a.put op.dst undef) (w.setCells b o [v])):wpList P ops Q (op::rest) a w:=
 zx c fun K f=>by
  unfold Oper.wp execOp
  simp only[j,i,d,Instr.storeAt,Instr.sureAddr,xt,Sem.run_pure,xY,LF e,run_storeVar_mid w b o ty #[v] g hi (by simpa using h1)]
  exact f _ _ h
end Go.Proofs.YtjofgpfocadomaaGreatDoor
namespace Go.Proofs.YtjofgpfocadomaaGreatDoor
open Go.RowKit Go.ChangeShapes Go.WideShapes Go.Deep
theorem QH{α:Type}{P:Nat->α->Prop}:∀n:Nat,(∀i,i < n->∃t,P i t)->∃a:List α,a.length=n∧∀i (h:i < a.length),P i a[i]
 |0,_=>⟨[],rfl,fun i h=>by simp at h⟩
 |n+1,h=>by
  obtain ⟨a,c,f⟩:=QH n (fun i hi=>h i (by omega))
  obtain ⟨t,d⟩:=h n (by omega)
  refine ⟨a++[t],by simp[c],fun i hi=>?_⟩
  by_cases b:i < a.length
  ·rw[xz b];exact f i b
  ·have e:i=a.length:=by simp at hi;omega
   subst e
   simp only[xy (yf _),Nat.sub_self,List.getElem_cons_zero]
   rw[c];exact d
theorem E4{H:Type}{P:Program}{e:TypeId}{d:DataW H}{n:Nat}:∀ {l:List (DataW H)},d∈l->n∈d.weights P e->n∈DataW.weightsAll P e l
 |[],h,_=>by simp at h
 |x::r,h,hn=>by
  simp only[DataW.weightsAll,yz]
  rcases yI.1 h with rfl|h
  ·exact .inl hn
  ·exact .inr (E4 h hn)
theorem QI{w:World}{a:Addr}{v:Value}(h:w.cell? a=some v):a.block < w.heap.size:=by
 rcases zU a.block w.heap.size with b|b
 ·exact b
 ·simp[World.cell?,xE b] at h
theorem A8{α:Type}(l:List α)(o n:Nat):l.drop o=(l.drop o).take n++l.drop (o+n):=by
 rw[<-List.drop_drop];exact (zS _ _).symm
theorem Cy:Tryz.prog.cellsOf 9=1:=by kernel_rfl
theorem Hw:Tryz.prog.cellsOf 3=1:=by kernel_rfl
theorem PX:Tryz.prog.cellsOf 4=1:=by kernel_rfl
theorem BB:Tryz.prog.cellsOf 23=2:=by kernel_rfl
theorem E5:Tryz.prog.cellsOf 64=12:=by kernel_rfl
theorem AA:Tryz.prog.cellsOf 26=6:=by kernel_rfl
theorem N9:Tryz.prog.cellsOf 35=26:=by kernel_rfl
theorem LL:Tryz.prog.cellsOf 50=7:=by kernel_rfl
theorem Lf:Tryz.prog.cellsOf 92=7:=by kernel_rfl
theorem JJ:Tryz.prog.cellsOf 66=51:=by kernel_rfl
theorem Lg:Tryz.prog.cellsOf 94=12:=by kernel_rfl
theorem Lh:Tryz.prog.cellsOf 158=8:=by kernel_rfl
theorem Li:Tryz.prog.cellsOf 109=23:=by kernel_rfl
theorem JK:Tryz.prog.cellsOf 131=37:=by kernel_rfl
theorem Lj:Tryz.prog.cellsOf 135=11:=by kernel_rfl
theorem Hz:Tryz.prog.cellsOf 27=1:=by kernel_rfl
theorem Ha:Tryz.prog.cellsOf 28=1:=by kernel_rfl
theorem GK:Tryz.prog.cellsOf 29=1:=by kernel_rfl
theorem Hb:Tryz.prog.cellsOf 30=1:=by kernel_rfl
theorem Hc:Tryz.prog.cellsOf 107=1:=by kernel_rfl
theorem He:Tryz.prog.cellsOf 31=1:=by kernel_rfl
theorem GL:Tryz.prog.cellsOf 32=1:=by kernel_rfl
theorem Hf:Tryz.prog.cellsOf 33=1:=by kernel_rfl
theorem PY:0 < Tryz.prog.bytesOf 26:=yO (by kernel_rfl)
theorem RS:0 < Tryz.prog.bytesOf 50:=yO (by kernel_rfl)
theorem PZ:0 < Tryz.prog.bytesOf 92:=yO (by kernel_rfl)
theorem OL:0 < Tryz.prog.bytesOf 66:=yO (by kernel_rfl)
theorem Q0:0 < Tryz.prog.bytesOf 94:=yO (by kernel_rfl)
theorem Q1:0 < Tryz.prog.bytesOf 158:=yO (by kernel_rfl)
theorem RT:0 < Tryz.prog.bytesOf 109:=yO (by kernel_rfl)
theorem OM:0 < Tryz.prog.bytesOf 131:=yO (by kernel_rfl)
theorem Q2:0 < Tryz.prog.bytesOf 135:=yO (by kernel_rfl)
mutual
def Mr:Ex->Prop
 |.mk _ _ _ _ _ args=>args.length*72<=140737488355328∧ON args
def ON:List Ex->Prop
 |[]=>True
 |e::r=>Mr e∧ON r
end
theorem OO:∀ {l:List Ex},(∀i (h:i < l.length),Mr l[i])->ON l
 |[],_=>by rw[ON];trivial
 |e::r,h=>by
  rw[ON]
  exact ⟨h 0 (by simp),OO fun i hi=>h (i+1) (by simpa using hi)⟩
theorem Uo:Tryz.prog.bytesOf 26=72:=by kernel_rfl
section
variable{H:Type}{enc:TypeId × Value->H}{W:World}
def Wt(t:TypeId)(d:DataW H):Prop:=∀k∈d.weights Tryz.prog t,k<=reachBytes
def JL(W:World)(b:Nat):Prop:=b < W.heap.size
theorem E6{α:Type}{t e:TypeId}{sz:Nat}{Pr:LV->α->Prop}(G:Tryz.prog.underlying t=some (.slice e))(D:Tryz.prog.cellsOf e=sz)(z:0 < Tryz.prog.bytesOf e)(C:0 < sz){fuel:Nat}{x0:Value}{d:DataW H}{ps:List MemPlace}
 (S:∀n,n < fuel->∀cs d ps,DataW.trod enc Tryz.prog W 0 (fun _=>true) true n e cs=some (d,ps)->Wt e d->cs.length=sz->∃x,Pr cs x)
 (h:DataW.trod enc Tryz.prog W 0 (fun _=>true) true fuel t [x0]=some (d,ps))(P:Wt t d):∃(hd:Au) (l:List α),x0=hd.v∧BL (JL W) W sz Pr hd l∧hd.n<=hd.c∧l.length*Tryz.prog.bytesOf e<=140737488355328:=by
 rcases DataW.trod_slice G h with ⟨o,_⟩|⟨a,len,cap,f,rest,n,V,o,K,hb,O,hm,Q,J,_,_⟩
 ·obtain rfl:x0=.slice none 0 0:=(xb o).1
  exact ⟨⟨none,0,0⟩,[],rfl,⟨rfl,by simp,fun i h=>by simp at h⟩,yf _,by simp⟩
 ·obtain rfl:x0=.slice (some a) len cap:=(xb o).1
  simp only[zr] at K
  have I:(f.length+rest.length)*Tryz.prog.bytesOf e<=140737488355328:=by
   have h1:=P ((f.length+rest.length)*Tryz.prog.bytesOf e) (by
    rw[K.1,DataW.weights,G]
    simp)
   have h2:reachBytes < 2 ^ 47:=reachBytes_lt
   omega
  have m:len*Tryz.prog.bytesOf e<=140737488355328:=yu (xL _ (by omega)) I
  have N:len<=140737488355328:=yu (Nat.le_mul_of_pos_right _ z) m
  have p:∀i,i < len->∃q:LV × α,q.1.length=sz∧(∀j,j < sz->W.cell? ((a.add (i*sz)).add j)=q.1[j]?)∧Pr q.1 q.2:=by
   intro i hi
   have h1:=J i hi
   have h2:f[i]?=some (f[i]'(by omega)):=yk _
   rw[h2,D] at h1
   obtain ⟨cs,hc,B⟩:=Option.bind_eq_some_iff.1 h1
   obtain ⟨_,r,F⟩:=World.cells?_some hc
   obtain ⟨x,E⟩:=S n (by omega) cs _ _ B (fun k U=>P k (by
    rw[K.1,DataW.weights,G]
    exact List.mem_cons_of_mem _ (yz.2 (.inl (E4 (xR.2 ⟨_,yM (by omega),rfl⟩) U))))) r
   exact ⟨(cs,x),r,F,E⟩
  by_cases h0:len=0
  ·subst h0
   exact ⟨⟨some a,0,cap⟩,[],rfl,⟨rfl,by simp,fun i h=>by simp at h⟩,O,by simp⟩
  ·obtain ⟨L,A,E⟩:=QH len p
   obtain ⟨Z,l0,c0,_⟩:=p 0 (by omega)
   have w:W.cell? a=some (Z.1[0]'(by omega)):=by
    have:=c0 0 C
    rw[yk (by omega)] at this
    simpa[Addr.add] using this
   have g:a.spot=none:=World.cell?_spot w
   have s:a.block < W.heap.size:=QI w
   obtain ⟨b,u,M⟩:=a
   simp only at g s
   subst g
   refine ⟨⟨some (aV b u),len,cap⟩,L.map (·.2),rfl,⟨by simp[A],by simp[A];omega,fun i hi=>?_⟩,O,by rw[yX,A];exact m⟩
   have y:i < L.length:=by simpa using hi
   obtain ⟨T,p2,Y⟩:=E i y
   refine ⟨b,u,(L[i]).1,rfl,s,T,fun j v R=>?_,by simpa using Y⟩
   have X:=(yA.1 R).1
   have:=p2 j (by omega)
   rw[R] at this
   simpa[zB,zR] using this
theorem OP{a:Option Addr}:∀ {l:List Ex} {k:Nat},(∀i (h:i < l.length),∃b o cs,a=some ⟨b,o,none⟩∧JL W b∧W.rangeAt b (o+(k+i)*6) cs∧AH (JL W) W l[i] cs)->CL (JL W) W a k l
 |[],_,_=>by rw[CL];trivial
 |e::r,k,h=>by
  rw[CL]
  refine ⟨h 0 (by simp),OP fun i hi=>?_⟩
  obtain ⟨b,o,cs,h1,h2,h3,c⟩:=h (i+1) (by simpa using hi)
  exact ⟨b,o,cs,h1,h2,by rw[show k+1+i=k+(i+1) by omega];exact h3,by simpa using c⟩
theorem E7{fuel:Nat}{cs:LV}{d:DataW H}{ps:List MemPlace}(h:DataW.trod enc Tryz.prog W 0 (fun _=>true) true fuel 9 cs=some (d,ps)):∃s:ByteArray,cs=[.string s]∧s.size<=maxLen:=by
 obtain ⟨s,h1,_,h2⟩:=DataW.trod_string j7 h
 exact ⟨s,h1,h2⟩
theorem Fl{fuel:Nat}{cs:LV}{d:DataW H}{ps:List MemPlace}(h:DataW.trod enc Tryz.prog W 0 (fun _=>true) true fuel 3 cs=some (d,ps)):∃z,cs=[.int .i64 z]:=by
 obtain ⟨z,h1,_⟩:=DataW.trod_int qQ h
 exact ⟨z,h1⟩
theorem RU{fuel:Nat}{cs:LV}{d:DataW H}{ps:List MemPlace}(h:DataW.trod enc Tryz.prog W 0 (fun _=>true) true fuel 4 cs=some (d,ps)):∃z,cs=[.bool z]:=by
 obtain ⟨z,h1,_⟩:=DataW.trod_bool qX h
 exact ⟨z,h1⟩
theorem DD{fuel:Nat}{cs:LV}{d:DataW H}{ps:List MemPlace}(h:DataW.trod enc Tryz.prog W 0 (fun _=>true) true fuel 23 cs=some (d,ps)):∃r:Rf,cs=AX r∧r.name.size<=maxLen:=by
 obtain ⟨i,n,_,j,a,c,b⟩:=zL Tryz.underlying23 h
 rw[BB] at a
 match cs,a,i,c with
 |[x0,x1],_,[y0,y1],_=>
  have e:=b 0 _ rfl
  have t1:=b 1 _ rfl
  simp only[xT,List.getElem?_cons_succ] at e t1
  obtain ⟨s,f,hs⟩:=E7 e
  obtain ⟨z,g⟩:=Fl t1
  obtain rfl:x0=.string s:=(xb (show [x0]=[_] from f)).1
  obtain rfl:x1=iV z:=(xb (show [x1]=[_] from g)).1
  exact ⟨⟨s,z⟩,rfl,hs⟩
theorem AM:∀(fuel:Nat) (cs:LV) (d:DataW H) (ps:List MemPlace),DataW.trod enc Tryz.prog W 0 (fun _=>true) true fuel 26 cs=some (d,ps)->Wt 26 d->∃e:Ex,AH (JL W) W e cs∧Mr e:=by
 intro fuel
 induction fuel using Nat.strongRecOn with
 |ind fuel ih=>
  intro cs d ps h w
  obtain ⟨N,n,J,z,p,x,f⟩:=zL qM h
  rw[AA] at p
  simp only[zr] at z
  match cs,p,N,x with
  |[x0,x1,x2,x3,x4,x5],_,[y0,y1,y2,y3,y4],_=>
   have E:=f 0 _ rfl
   have t1:=f 1 _ rfl
   have t2:=f 2 _ rfl
   have t3:=f 3 _ rfl
   have t4:=f 4 _ rfl
   simp only[xT,List.getElem?_cons_succ] at E t1 t2 t3 t4
   obtain ⟨B,I⟩:=Fl E
   obtain ⟨y,M⟩:=Fl t1
   obtain ⟨D,K⟩:=Fl t2
   obtain ⟨r,u,hr⟩:=DD t3
   obtain rfl:x0=iV B:=(xb (show [x0]=[_] from I)).1
   obtain rfl:x1=iV y:=(xb (show [x1]=[_] from M)).1
   obtain rfl:x2=iV D:=(xb (show [x2]=[_] from K)).1
   have u:[x3,x4]=[Value.string r.name,iV r.n]:=u
   obtain ⟨rfl,G⟩:=xb u
   obtain ⟨rfl,_⟩:=xb G
   obtain ⟨hd,l,L,g,_,q⟩:=E6 (x0:=x5) (Pr:=fun cs e=>AH (JL W) W e cs∧Mr e) qL AA PY (by decide) (fun m O cs d ps h w _=>ih m (by omega) cs d ps h w) (show DataW.trod enc Tryz.prog W 0 (fun _=>true) true n 24 [x5]=some (y4.1,y4.2) from t4) (fun k F=>w k (by
    rw[z.1,DataW.weights,qM]
    exact yC (j:=4) (t:=24) (d:=y4.1) rfl rfl _ F))
   subst L
   refine ⟨.mk B y D r.name r.n l,?_,?_⟩
   ·rw[AH]
    refine ⟨hd.a,hd.c,by unfold Au.v;rw[g.1],g.2.1,hr,OP fun i hi=>?_⟩
    obtain ⟨b,o,cs,g1,A,_,C,s⟩:=g.2.2 i hi
    exact ⟨b,o,cs,g1,A,by rw[yy];exact C,s.1⟩
   ·rw[Mr]
    exact ⟨by rw[Uo] at q;exact q,OO fun i hi=>by
     obtain ⟨b,o,cs,g1,A,_,C,s⟩:=g.2.2 i hi
     exact s.2⟩
theorem OQ{fuel:Nat}{cs:LV}{d:DataW H}{ps:List MemPlace}(h:DataW.trod enc Tryz.prog W 0 (fun _=>true) true fuel 64 cs=some (d,ps))(p:Wt 64 d):∃(e f:Ex) (c q:LV),cs=c++q∧AH (JL W) W e c∧AH (JL W) W f q:=by
 obtain ⟨v,n,u,i,a,l,b⟩:=DataW.trod_array j1 h
 simp only[zr] at i
 rw[E5] at a
 match v,l with
 |[y0,y1],_=>
  have r:DataW.trod enc Tryz.prog W 0 (fun _=>true) true n 26 ((cs.drop (0*Tryz.prog.cellsOf 26)).take (Tryz.prog.cellsOf 26))=some (y0.1,y0.2):=b 0 (by decide)
  have t1:DataW.trod enc Tryz.prog W 0 (fun _=>true) true n 26 ((cs.drop (1*Tryz.prog.cellsOf 26)).take (Tryz.prog.cellsOf 26))=some (y1.1,y1.2):=b 1 (by decide)
  rw[AA] at r t1
  obtain ⟨e,s,_⟩:=AM n _ _ _ r (fun k j=>p k (by
   rw[i.1,DataW.weights,j1]
   exact E4 (d:=y0.1) (by simp) j))
  obtain ⟨f,t,_⟩:=AM n _ _ _ t1 (fun k j=>p k (by
   rw[i.1,DataW.weights,j1]
   exact E4 (d:=y1.1) (by simp) j))
  refine ⟨e,f,_,_,?_,s,t⟩
  have o:=A8 cs 0 6
  have m:=A8 cs 6 6
  have g:cs.drop 12=[]:=by rw[<-a];exact zI
  simp only[Nat.reduceAdd,Nat.zero_mul,qA] at o m ⊢
  rw[g,yV] at m
  rw[xf] at o
  rw[<-m]
  rw[xf]
  exact o
theorem Tw(fuel:Nat)(cs:LV)(d:DataW H)(ps:List MemPlace)(h:DataW.trod enc Tryz.prog W 0 (fun _=>true) true fuel 50 cs=some (d,ps))(v:Wt 50 d)(e:cs.length=7):∃x:Ge,K5 (JL W) W cs x:=by
 obtain ⟨s,n,z,p,_,b,a⟩:=zL j0 h
 simp only[zr] at p
 have b:s.length=2:=b
 match s,b with
 |[y0,y1],_=>
  have o:DataW.trod enc Tryz.prog W 0 (fun _=>true) true n 9 ((cs.drop 0).take (Tryz.prog.cellsOf 9))=some (y0.1,y0.2):=a 0 _ rfl
  rw[Cy] at o
  have t1:DataW.trod enc Tryz.prog W 0 (fun _=>true) true n 26 ((cs.drop 1).take (Tryz.prog.cellsOf 26))=some (y1.1,y1.2):=a 1 _ rfl
  rw[AA] at t1
  have i:cs=cs.drop 0:=rfl
  have c:=A8 cs 0 1
  obtain ⟨B,g⟩:∃q,q=(cs.drop 0).take 1:=⟨_,rfl⟩
  rw[<-g] at o c
  have m:=A8 cs 1 6
  obtain ⟨r,l⟩:∃q,q=(cs.drop 1).take 6:=⟨_,rfl⟩
  rw[<-l] at t1 m
  have f:cs.drop 7=[]:=by rw[<-e];exact zI
  simp only[Nat.reduceAdd] at c m
  rw[xf] at c
  rw[m] at c
  rw[f] at c
  clear i
  obtain ⟨v0,y,w⟩:=E7 o
  obtain ⟨v1,A,_⟩:=AM n r _ _ t1 (fun k u=>v k (by
   rw[p.1,DataW.weights,j0]
   exact yC (j:=1) (t:=26) (d:=y1.1) rfl rfl _ u))
  exact ⟨⟨v0,v1⟩,w,r,by rw[c,y];simp,A⟩
theorem RW(fuel:Nat)(cs:LV)(d:DataW H)(ps:List MemPlace)(h:DataW.trod enc Tryz.prog W 0 (fun _=>true) true fuel 92 cs=some (d,ps))(v:Wt 92 d)(e:cs.length=7):∃x:DK,I1 (JL W) W cs x:=by
 obtain ⟨s,n,z,p,_,b,a⟩:=zL j8 h
 simp only[zr] at p
 have b:s.length=2:=b
 match s,b with
 |[y0,y1],_=>
  have o:DataW.trod enc Tryz.prog W 0 (fun _=>true) true n 9 ((cs.drop 0).take (Tryz.prog.cellsOf 9))=some (y0.1,y0.2):=a 0 _ rfl
  rw[Cy] at o
  have t1:DataW.trod enc Tryz.prog W 0 (fun _=>true) true n 26 ((cs.drop 1).take (Tryz.prog.cellsOf 26))=some (y1.1,y1.2):=a 1 _ rfl
  rw[AA] at t1
  have i:cs=cs.drop 0:=rfl
  have c:=A8 cs 0 1
  obtain ⟨B,g⟩:∃q,q=(cs.drop 0).take 1:=⟨_,rfl⟩
  rw[<-g] at o c
  have m:=A8 cs 1 6
  obtain ⟨r,l⟩:∃q,q=(cs.drop 1).take 6:=⟨_,rfl⟩
  rw[<-l] at t1 m
  have f:cs.drop 7=[]:=by rw[<-e];exact zI
  simp only[Nat.reduceAdd] at c m
  rw[xf] at c
  rw[m] at c
  rw[f] at c
  clear i
  obtain ⟨v0,y,w⟩:=E7 o
  obtain ⟨v1,A,_⟩:=AM n r _ _ t1 (fun k u=>v k (by
   rw[p.1,DataW.weights,j8]
   exact yC (j:=1) (t:=26) (d:=y1.1) rfl rfl _ u))
  exact ⟨⟨v0,v1⟩,w,r,by rw[c,y];simp,A⟩
theorem Q3(fuel:Nat)(cs:LV)(d:DataW H)(ps:List MemPlace)(h:DataW.trod enc Tryz.prog W 0 (fun _=>true) true fuel 66 cs=some (d,ps))(g:Wt 66 d)(i:cs.length=51):∃x:AF,F0 (JL W) W cs x:=by
 obtain ⟨L,n,Q,f,_,e,a⟩:=zL j2 h
 simp only[zr] at f
 have e:L.length=8:=e
 match L,e with
 |[y0,y1,y2,y3,y4,y5,y6,y7],_=>
  have u:DataW.trod enc Tryz.prog W 0 (fun _=>true) true n 9 ((cs.drop 0).take (Tryz.prog.cellsOf 9))=some (y0.1,y0.2):=a 0 _ rfl
  rw[Cy] at u
  have t1:DataW.trod enc Tryz.prog W 0 (fun _=>true) true n 23 ((cs.drop 1).take (Tryz.prog.cellsOf 23))=some (y1.1,y1.2):=a 1 _ rfl
  rw[BB] at t1
  have t2:DataW.trod enc Tryz.prog W 0 (fun _=>true) true n 26 ((cs.drop 3).take (Tryz.prog.cellsOf 26))=some (y2.1,y2.2):=a 2 _ rfl
  rw[AA] at t2
  have t3:DataW.trod enc Tryz.prog W 0 (fun _=>true) true n 26 ((cs.drop 9).take (Tryz.prog.cellsOf 26))=some (y3.1,y3.2):=a 3 _ rfl
  rw[AA] at t3
  have t4:DataW.trod enc Tryz.prog W 0 (fun _=>true) true n 26 ((cs.drop 15).take (Tryz.prog.cellsOf 26))=some (y4.1,y4.2):=a 4 _ rfl
  rw[AA] at t4
  have t5:DataW.trod enc Tryz.prog W 0 (fun _=>true) true n 26 ((cs.drop 21).take (Tryz.prog.cellsOf 26))=some (y5.1,y5.2):=a 5 _ rfl
  rw[AA] at t5
  have t6:DataW.trod enc Tryz.prog W 0 (fun _=>true) true n 64 ((cs.drop 27).take (Tryz.prog.cellsOf 64))=some (y6.1,y6.2):=a 6 _ rfl
  rw[E5] at t6
  have t7:DataW.trod enc Tryz.prog W 0 (fun _=>true) true n 64 ((cs.drop 39).take (Tryz.prog.cellsOf 64))=some (y7.1,y7.2):=a 7 _ rfl
  rw[E5] at t7
  have p:cs=cs.drop 0:=rfl
  have b:=A8 cs 0 1
  obtain ⟨q0,D⟩:∃q,q=(cs.drop 0).take 1:=⟨_,rfl⟩
  rw[<-D] at u b
  have A:=A8 cs 1 2
  obtain ⟨q1,r⟩:∃q,q=(cs.drop 1).take 2:=⟨_,rfl⟩
  rw[<-r] at t1 A
  have E:=A8 cs 3 6
  obtain ⟨M,G⟩:∃q,q=(cs.drop 3).take 6:=⟨_,rfl⟩
  rw[<-G] at t2 E
  have z:=A8 cs 9 6
  obtain ⟨I,s⟩:∃q,q=(cs.drop 9).take 6:=⟨_,rfl⟩
  rw[<-s] at t3 z
  have v:=A8 cs 15 6
  obtain ⟨J,w⟩:∃q,q=(cs.drop 15).take 6:=⟨_,rfl⟩
  rw[<-w] at t4 v
  have B:=A8 cs 21 6
  obtain ⟨K,C⟩:∃q,q=(cs.drop 21).take 6:=⟨_,rfl⟩
  rw[<-C] at t5 B
  have F:=A8 cs 27 12
  obtain ⟨q6,y⟩:∃q,q=(cs.drop 27).take 12:=⟨_,rfl⟩
  rw[<-y] at t6 F
  have o:=A8 cs 39 12
  obtain ⟨q7,m⟩:∃q,q=(cs.drop 39).take 12:=⟨_,rfl⟩
  rw[<-m] at t7 o
  have l:cs.drop 51=[]:=by rw[<-i];exact zI
  simp only[Nat.reduceAdd] at b A E z v B F o
  rw[xf] at b
  rw[A] at b
  rw[E] at b
  rw[z] at b
  rw[v] at b
  rw[B] at b
  rw[F] at b
  rw[o] at b
  rw[l] at b
  clear p
  obtain ⟨v0,Z,P⟩:=E7 u
  obtain ⟨v1,U,z1⟩:=DD t1
  obtain ⟨v2,R,_⟩:=AM n M _ _ t2 (fun k c=>g k (by
   rw[f.1,DataW.weights,j2]
   exact yC (j:=2) (t:=26) (d:=y2.1) rfl rfl _ c))
  obtain ⟨v3,N,_⟩:=AM n I _ _ t3 (fun k c=>g k (by
   rw[f.1,DataW.weights,j2]
   exact yC (j:=3) (t:=26) (d:=y3.1) rfl rfl _ c))
  obtain ⟨v4,O,_⟩:=AM n J _ _ t4 (fun k c=>g k (by
   rw[f.1,DataW.weights,j2]
   exact yC (j:=4) (t:=26) (d:=y4.1) rfl rfl _ c))
  obtain ⟨v5,S,_⟩:=AM n K _ _ t5 (fun k c=>g k (by
   rw[f.1,DataW.weights,j2]
   exact yC (j:=5) (t:=26) (d:=y5.1) rfl rfl _ c))
  obtain ⟨v6,u6,c6,r6,Y,V,h6⟩:=OQ t6 (fun k c=>g k (by
   rw[f.1,DataW.weights,j2]
   exact yC (j:=6) (t:=64) (d:=y6.1) rfl rfl _ c))
  obtain ⟨v7,T,c7,X,e7,g7,h7⟩:=OQ t7 (fun k c=>g k (by
   rw[f.1,DataW.weights,j2]
   exact yC (j:=7) (t:=64) (d:=y7.1) rfl rfl _ c))
  exact ⟨⟨v0,v1,v2,v3,v4,v5,v6,u6,v7,T⟩,P,z1,M,I,J,K,c6,r6,c7,X,by rw[b,Z,U,Y,e7];simp,R,N,O,S,V,h6,g7,h7⟩
theorem RX(fuel:Nat)(cs:LV)(d:DataW H)(ps:List MemPlace)(h:DataW.trod enc Tryz.prog W 0 (fun _=>true) true fuel 94 cs=some (d,ps))(E:Wt 94 d)(e:cs.length=12):∃x:D4,I2 (JL W) W cs x:=by
 obtain ⟨A,n,J,y,_,c,a⟩:=zL j9 h
 simp only[zr] at y
 have c:A.length=5:=c
 match A,c with
 |[y0,y1,y2,y3,y4],_=>
  have w:DataW.trod enc Tryz.prog W 0 (fun _=>true) true n 9 ((cs.drop 0).take (Tryz.prog.cellsOf 9))=some (y0.1,y0.2):=a 0 _ rfl
  rw[Cy] at w
  have t1:DataW.trod enc Tryz.prog W 0 (fun _=>true) true n 23 ((cs.drop 1).take (Tryz.prog.cellsOf 23))=some (y1.1,y1.2):=a 1 _ rfl
  rw[BB] at t1
  have t2:DataW.trod enc Tryz.prog W 0 (fun _=>true) true n 4 ((cs.drop 3).take (Tryz.prog.cellsOf 4))=some (y2.1,y2.2):=a 2 _ rfl
  rw[PX] at t2
  have t3:DataW.trod enc Tryz.prog W 0 (fun _=>true) true n 26 ((cs.drop 4).take (Tryz.prog.cellsOf 26))=some (y3.1,y3.2):=a 3 _ rfl
  rw[AA] at t3
  have t4:DataW.trod enc Tryz.prog W 0 (fun _=>true) true n 23 ((cs.drop 10).take (Tryz.prog.cellsOf 23))=some (y4.1,y4.2):=a 4 _ rfl
  rw[BB] at t4
  have p:cs=cs.drop 0:=rfl
  have b:=A8 cs 0 1
  obtain ⟨Q,l⟩:∃q,q=(cs.drop 0).take 1:=⟨_,rfl⟩
  rw[<-l] at w b
  have s:=A8 cs 1 2
  obtain ⟨P,r⟩:∃q,q=(cs.drop 1).take 2:=⟨_,rfl⟩
  rw[<-r] at t1 s
  have m:=A8 cs 3 1
  obtain ⟨O,v⟩:∃q,q=(cs.drop 3).take 1:=⟨_,rfl⟩
  rw[<-v] at t2 m
  have o:=A8 cs 4 6
  obtain ⟨z,u⟩:∃q,q=(cs.drop 4).take 6:=⟨_,rfl⟩
  rw[<-u] at t3 o
  have g:=A8 cs 10 2
  obtain ⟨N,i⟩:∃q,q=(cs.drop 10).take 2:=⟨_,rfl⟩
  rw[<-i] at t4 g
  have f:cs.drop 12=[]:=by rw[<-e];exact zI
  simp only[Nat.reduceAdd] at b s m o g
  rw[xf] at b
  rw[s] at b
  rw[m] at b
  rw[o] at b
  rw[g] at b
  rw[f] at b
  clear p
  obtain ⟨v0,I,G⟩:=E7 w
  obtain ⟨v1,M,B⟩:=DD t1
  obtain ⟨L,K⟩:=RU t2
  obtain ⟨v3,C,_⟩:=AM n z _ _ t3 (fun k D=>E k (by
   rw[y.1,DataW.weights,j9]
   exact yC (j:=3) (t:=26) (d:=y3.1) rfl rfl _ D))
  obtain ⟨v4,F,z4⟩:=DD t4
  exact ⟨⟨v0,v1,L,v3,v4⟩,G,B,z4,z,by rw[b,I,M,K,F];simp,C⟩
theorem RY(fuel:Nat)(cs:LV)(d:DataW H)(ps:List MemPlace)(h:DataW.trod enc Tryz.prog W 0 (fun _=>true) true fuel 158 cs=some (d,ps))(v:Wt 158 d)(e:cs.length=8):∃x:Cq,Fp (JL W) W cs x:=by
 obtain ⟨s,n,z,p,_,b,a⟩:=zL qI h
 simp only[zr] at p
 have b:s.length=2:=b
 match s,b with
 |[y0,y1],_=>
  have o:DataW.trod enc Tryz.prog W 0 (fun _=>true) true n 23 ((cs.drop 0).take (Tryz.prog.cellsOf 23))=some (y0.1,y0.2):=a 0 _ rfl
  rw[BB] at o
  have t1:DataW.trod enc Tryz.prog W 0 (fun _=>true) true n 26 ((cs.drop 2).take (Tryz.prog.cellsOf 26))=some (y1.1,y1.2):=a 1 _ rfl
  rw[AA] at t1
  have i:cs=cs.drop 0:=rfl
  have c:=A8 cs 0 2
  obtain ⟨B,g⟩:∃q,q=(cs.drop 0).take 2:=⟨_,rfl⟩
  rw[<-g] at o c
  have m:=A8 cs 2 6
  obtain ⟨r,l⟩:∃q,q=(cs.drop 2).take 6:=⟨_,rfl⟩
  rw[<-l] at t1 m
  have f:cs.drop 8=[]:=by rw[<-e];exact zI
  simp only[Nat.reduceAdd] at c m
  rw[xf] at c
  rw[m] at c
  rw[f] at c
  clear i
  obtain ⟨v0,y,w⟩:=DD o
  obtain ⟨v1,A,_⟩:=AM n r _ _ t1 (fun k u=>v k (by
   rw[p.1,DataW.weights,qI]
   exact yC (j:=1) (t:=26) (d:=y1.1) rfl rfl _ u))
  exact ⟨⟨v0,v1⟩,w,r,by rw[c,y];simp,A⟩
theorem Tx(fuel:Nat)(cs:LV)(d:DataW H)(ps:List MemPlace)(h:DataW.trod enc Tryz.prog W 0 (fun _=>true) true fuel 109 cs=some (d,ps))(i:Wt 109 d)(c:cs.length=23):∃x:BG × Au,GQ (JL W) W x.2 cs x.1:=by
 obtain ⟨O,n,X,l,_,f,a⟩:=zL qE h
 simp only[zr] at l
 have f:O.length=7:=f
 match O,f with
 |[y0,y1,y2,y3,y4,y5,y6],_=>
  have B:DataW.trod enc Tryz.prog W 0 (fun _=>true) true n 9 ((cs.drop 0).take (Tryz.prog.cellsOf 9))=some (y0.1,y0.2):=a 0 _ rfl
  rw[Cy] at B
  have t1:DataW.trod enc Tryz.prog W 0 (fun _=>true) true n 23 ((cs.drop 1).take (Tryz.prog.cellsOf 23))=some (y1.1,y1.2):=a 1 _ rfl
  rw[BB] at t1
  have t2:DataW.trod enc Tryz.prog W 0 (fun _=>true) true n 3 ((cs.drop 3).take (Tryz.prog.cellsOf 3))=some (y2.1,y2.2):=a 2 _ rfl
  rw[Hw] at t2
  have t3:DataW.trod enc Tryz.prog W 0 (fun _=>true) true n 26 ((cs.drop 4).take (Tryz.prog.cellsOf 26))=some (y3.1,y3.2):=a 3 _ rfl
  rw[AA] at t3
  have t4:DataW.trod enc Tryz.prog W 0 (fun _=>true) true n 26 ((cs.drop 10).take (Tryz.prog.cellsOf 26))=some (y4.1,y4.2):=a 4 _ rfl
  rw[AA] at t4
  have t5:DataW.trod enc Tryz.prog W 0 (fun _=>true) true n 26 ((cs.drop 16).take (Tryz.prog.cellsOf 26))=some (y5.1,y5.2):=a 5 _ rfl
  rw[AA] at t5
  have t6:DataW.trod enc Tryz.prog W 0 (fun _=>true) true n 107 ((cs.drop 22).take (Tryz.prog.cellsOf 107))=some (y6.1,y6.2):=a 6 _ rfl
  rw[Hc] at t6
  have C:cs=cs.drop 0:=rfl
  have b:=A8 cs 0 1
  obtain ⟨q0,w⟩:∃q,q=(cs.drop 0).take 1:=⟨_,rfl⟩
  rw[<-w] at B b
  have F:=A8 cs 1 2
  obtain ⟨q1,E⟩:∃q,q=(cs.drop 1).take 2:=⟨_,rfl⟩
  rw[<-E] at t1 F
  have y:=A8 cs 3 1
  obtain ⟨q2,I⟩:∃q,q=(cs.drop 3).take 1:=⟨_,rfl⟩
  rw[<-I] at t2 y
  have A:=A8 cs 4 6
  obtain ⟨L,G⟩:∃q,q=(cs.drop 4).take 6:=⟨_,rfl⟩
  rw[<-G] at t3 A
  have s:=A8 cs 10 6
  obtain ⟨K,u⟩:∃q,q=(cs.drop 10).take 6:=⟨_,rfl⟩
  rw[<-u] at t4 s
  have J:=A8 cs 16 6
  obtain ⟨M,r⟩:∃q,q=(cs.drop 16).take 6:=⟨_,rfl⟩
  rw[<-r] at t5 J
  have z:=A8 cs 22 1
  obtain ⟨R,o⟩:∃q,q=(cs.drop 22).take 1:=⟨_,rfl⟩
  rw[<-o] at t6 z
  have p:cs.drop 23=[]:=by rw[<-c];exact zI
  simp only[Nat.reduceAdd] at b F y A s J z
  rw[xf] at b
  rw[F] at b
  rw[y] at b
  rw[A] at b
  rw[s] at b
  rw[J] at b
  rw[z] at b
  rw[p] at b
  clear C
  obtain ⟨v0,Y,V⟩:=E7 B
  obtain ⟨v1,e1,P⟩:=DD t1
  obtain ⟨v2,Z⟩:=Fl t2
  obtain ⟨v3,Q,_⟩:=AM n L _ _ t3 (fun k e=>i k (by
   rw[l.1,DataW.weights,qE]
   exact yC (j:=3) (t:=26) (d:=y3.1) rfl rfl _ e))
  obtain ⟨v4,U,_⟩:=AM n K _ _ t4 (fun k e=>i k (by
   rw[l.1,DataW.weights,qE]
   exact yC (j:=4) (t:=26) (d:=y4.1) rfl rfl _ e))
  obtain ⟨v5,e5,_⟩:=AM n M _ _ t5 (fun k e=>i k (by
   rw[l.1,DataW.weights,qE]
   exact yC (j:=5) (t:=26) (d:=y5.1) rfl rfl _ e))
  obtain ⟨a0,g⟩:∃v,R=[v]:=zO.1 (by rw[o,zc,xw,c];rfl)
  rw[g] at t6
  obtain ⟨D,l6,T,Cs,N,_⟩:=E6 (Pr:=fun cs x=>Fp (JL W) W cs x) qD Lh Q1 (by decide) (fun m _ cs d ps h i S=>RY m cs d ps h i S) t6 (fun k e=>i k (by
   rw[l.1,DataW.weights,qE]
   exact yC (j:=6) (t:=107) (d:=y6.1) rfl rfl _ e))
  rw[T] at g
  exact ⟨(⟨v0,v1,v2,v3,v4,v5,l6⟩,D),V,P,L,K,M,by rw[b,Y,e1,Z,g];simp,Q,U,e5,Cs⟩
theorem Q4(fuel:Nat)(cs:LV)(d:DataW H)(ps:List MemPlace)(h:DataW.trod enc Tryz.prog W 0 (fun _=>true) true fuel 131 cs=some (d,ps))(i:Wt 131 d)(g:cs.length=37):∃x:Ba,F1 (JL W) W cs x:=by
 obtain ⟨R,n,X,f,_,e,a⟩:=zL qF h
 simp only[zr] at f
 have e:R.length=10:=e
 match R,e with
 |[y0,y1,y2,y3,y4,y5,y6,y7,y8,y9],_=>
  have v:DataW.trod enc Tryz.prog W 0 (fun _=>true) true n 3 ((cs.drop 0).take (Tryz.prog.cellsOf 3))=some (y0.1,y0.2):=a 0 _ rfl
  rw[Hw] at v
  have t1:DataW.trod enc Tryz.prog W 0 (fun _=>true) true n 9 ((cs.drop 1).take (Tryz.prog.cellsOf 9))=some (y1.1,y1.2):=a 1 _ rfl
  rw[Cy] at t1
  have t2:DataW.trod enc Tryz.prog W 0 (fun _=>true) true n 23 ((cs.drop 2).take (Tryz.prog.cellsOf 23))=some (y2.1,y2.2):=a 2 _ rfl
  rw[BB] at t2
  have t3:DataW.trod enc Tryz.prog W 0 (fun _=>true) true n 23 ((cs.drop 4).take (Tryz.prog.cellsOf 23))=some (y3.1,y3.2):=a 3 _ rfl
  rw[BB] at t3
  have t4:DataW.trod enc Tryz.prog W 0 (fun _=>true) true n 3 ((cs.drop 6).take (Tryz.prog.cellsOf 3))=some (y4.1,y4.2):=a 4 _ rfl
  rw[Hw] at t4
  have t5:DataW.trod enc Tryz.prog W 0 (fun _=>true) true n 26 ((cs.drop 7).take (Tryz.prog.cellsOf 26))=some (y5.1,y5.2):=a 5 _ rfl
  rw[AA] at t5
  have t6:DataW.trod enc Tryz.prog W 0 (fun _=>true) true n 26 ((cs.drop 13).take (Tryz.prog.cellsOf 26))=some (y6.1,y6.2):=a 6 _ rfl
  rw[AA] at t6
  have t7:DataW.trod enc Tryz.prog W 0 (fun _=>true) true n 26 ((cs.drop 19).take (Tryz.prog.cellsOf 26))=some (y7.1,y7.2):=a 7 _ rfl
  rw[AA] at t7
  have L:DataW.trod enc Tryz.prog W 0 (fun _=>true) true n 26 ((cs.drop 25).take (Tryz.prog.cellsOf 26))=some (y8.1,y8.2):=a 8 _ rfl
  rw[AA] at L
  have t9:DataW.trod enc Tryz.prog W 0 (fun _=>true) true n 26 ((cs.drop 31).take (Tryz.prog.cellsOf 26))=some (y9.1,y9.2):=a 9 _ rfl
  rw[AA] at t9
  have r:cs=cs.drop 0:=rfl
  have b:=A8 cs 0 1
  obtain ⟨q0,F⟩:∃q,q=(cs.drop 0).take 1:=⟨_,rfl⟩
  rw[<-F] at v b
  have C:=A8 cs 1 1
  obtain ⟨q1,s⟩:∃q,q=(cs.drop 1).take 1:=⟨_,rfl⟩
  rw[<-s] at t1 C
  have G:=A8 cs 2 2
  obtain ⟨q2,M⟩:∃q,q=(cs.drop 2).take 2:=⟨_,rfl⟩
  rw[<-M] at t2 G
  have B:=A8 cs 4 2
  obtain ⟨q3,u⟩:∃q,q=(cs.drop 4).take 2:=⟨_,rfl⟩
  rw[<-u] at t3 B
  have w:=A8 cs 6 1
  obtain ⟨q4,y⟩:∃q,q=(cs.drop 6).take 1:=⟨_,rfl⟩
  rw[<-y] at t4 w
  have D:=A8 cs 7 6
  obtain ⟨P,E⟩:∃q,q=(cs.drop 7).take 6:=⟨_,rfl⟩
  rw[<-E] at t5 D
  have I:=A8 cs 13 6
  obtain ⟨S,A⟩:∃q,q=(cs.drop 13).take 6:=⟨_,rfl⟩
  rw[<-A] at t6 I
  have p:=A8 cs 19 6
  obtain ⟨N,o⟩:∃q,q=(cs.drop 19).take 6:=⟨_,rfl⟩
  rw[<-o] at t7 p
  have m:=A8 cs 25 6
  obtain ⟨Q,J⟩:∃q,q=(cs.drop 25).take 6:=⟨_,rfl⟩
  rw[<-J] at L m
  have K:=A8 cs 31 6
  obtain ⟨O,z⟩:∃q,q=(cs.drop 31).take 6:=⟨_,rfl⟩
  rw[<-z] at t9 K
  have l:cs.drop 37=[]:=by rw[<-g];exact zI
  simp only[Nat.reduceAdd] at b C G B w D I p m K
  rw[xf] at b
  rw[C] at b
  rw[G] at b
  rw[B] at b
  rw[w] at b
  rw[D] at b
  rw[I] at b
  rw[p] at b
  rw[m] at b
  rw[K] at b
  rw[l] at b
  clear r
  obtain ⟨v0,e0⟩:=Fl v
  obtain ⟨v1,e1,z1⟩:=E7 t1
  obtain ⟨v2,Y,z2⟩:=DD t2
  obtain ⟨v3,U,z3⟩:=DD t3
  obtain ⟨v4,V⟩:=Fl t4
  obtain ⟨v5,Z,_⟩:=AM n P _ _ t5 (fun k c=>i k (by
   rw[f.1,DataW.weights,qF]
   exact yC (j:=5) (t:=26) (d:=y5.1) rfl rfl _ c))
  obtain ⟨v6,e6,_⟩:=AM n S _ _ t6 (fun k c=>i k (by
   rw[f.1,DataW.weights,qF]
   exact yC (j:=6) (t:=26) (d:=y6.1) rfl rfl _ c))
  obtain ⟨v7,e7,_⟩:=AM n N _ _ t7 (fun k c=>i k (by
   rw[f.1,DataW.weights,qF]
   exact yC (j:=7) (t:=26) (d:=y7.1) rfl rfl _ c))
  obtain ⟨v8,e8,_⟩:=AM n Q _ _ L (fun k c=>i k (by
   rw[f.1,DataW.weights,qF]
   exact yC (j:=8) (t:=26) (d:=y8.1) rfl rfl _ c))
  obtain ⟨v9,T,_⟩:=AM n O _ _ t9 (fun k c=>i k (by
   rw[f.1,DataW.weights,qF]
   exact yC (j:=9) (t:=26) (d:=y9.1) rfl rfl _ c))
  exact ⟨⟨v0,v1,v2,v3,v4,v5,v6,v7,v8,v9⟩,z1,z2,z3,P,S,N,Q,O,by rw[b,e0,e1,Y,U,V];simp,Z,e6,e7,e8,T⟩
theorem RZ(fuel:Nat)(cs:LV)(d:DataW H)(ps:List MemPlace)(h:DataW.trod enc Tryz.prog W 0 (fun _=>true) true fuel 135 cs=some (d,ps))(C:Wt 135 d)(e:cs.length=11):∃x:De,I3 (JL W) W cs x:=by
 obtain ⟨y,n,F,v,_,c,a⟩:=zL qG h
 simp only[zr] at v
 have c:y.length=4:=c
 match y,c with
 |[y0,y1,y2,y3],_=>
  have u:DataW.trod enc Tryz.prog W 0 (fun _=>true) true n 9 ((cs.drop 0).take (Tryz.prog.cellsOf 9))=some (y0.1,y0.2):=a 0 _ rfl
  rw[Cy] at u
  have t1:DataW.trod enc Tryz.prog W 0 (fun _=>true) true n 23 ((cs.drop 1).take (Tryz.prog.cellsOf 23))=some (y1.1,y1.2):=a 1 _ rfl
  rw[BB] at t1
  have t2:DataW.trod enc Tryz.prog W 0 (fun _=>true) true n 23 ((cs.drop 3).take (Tryz.prog.cellsOf 23))=some (y2.1,y2.2):=a 2 _ rfl
  rw[BB] at t2
  have t3:DataW.trod enc Tryz.prog W 0 (fun _=>true) true n 26 ((cs.drop 5).take (Tryz.prog.cellsOf 26))=some (y3.1,y3.2):=a 3 _ rfl
  rw[AA] at t3
  have m:cs=cs.drop 0:=rfl
  have b:=A8 cs 0 1
  obtain ⟨N,g⟩:∃q,q=(cs.drop 0).take 1:=⟨_,rfl⟩
  rw[<-g] at u b
  have p:=A8 cs 1 2
  obtain ⟨M,o⟩:∃q,q=(cs.drop 1).take 2:=⟨_,rfl⟩
  rw[<-o] at t1 p
  have i:=A8 cs 3 2
  obtain ⟨L,s⟩:∃q,q=(cs.drop 3).take 2:=⟨_,rfl⟩
  rw[<-s] at t2 i
  have l:=A8 cs 5 6
  obtain ⟨w,r⟩:∃q,q=(cs.drop 5).take 6:=⟨_,rfl⟩
  rw[<-r] at t3 l
  have f:cs.drop 11=[]:=by rw[<-e];exact zI
  simp only[Nat.reduceAdd] at b p i l
  rw[xf] at b
  rw[p] at b
  rw[i] at b
  rw[l] at b
  rw[f] at b
  clear m
  obtain ⟨v0,E,D⟩:=E7 u
  obtain ⟨v1,J,z⟩:=DD t1
  obtain ⟨I,G,K⟩:=DD t2
  obtain ⟨v3,A,_⟩:=AM n w _ _ t3 (fun k B=>C k (by
   rw[v.1,DataW.weights,qG]
   exact yC (j:=3) (t:=26) (d:=y3.1) rfl rfl _ B))
  exact ⟨⟨v0,v1,I,v3⟩,D,z,K,w,by rw[b,E,J,G];simp,A⟩
theorem OR{fuel:Nat}{cs:LV}{d:DataW H}{ps:List MemPlace}(h:DataW.trod enc Tryz.prog W 0 (fun _=>true) true fuel 35 cs=some (d,ps))(g:Wt 35 d)(f:cs.length=26):∃(L:Bz) (x:AB),BT (JL W) W L cs x∧L.duties.n<=L.duties.c∧L.rights.n<=L.rights.c:=by
 obtain ⟨ys,n,aq,u,_,B,a⟩:=zL qV h
 simp only[zr] at u
 have B:ys.length=11:=B
 match ys,B with
 |[y0,y1,y2,y3,y4,y5,y6,y7,y8,y9,y10],_=>
  have t0:DataW.trod enc Tryz.prog W 0 (fun _=>true) true n 9 ((cs.drop 0).take (Tryz.prog.cellsOf 9))=some (y0.1,y0.2):=a 0 _ rfl
  rw[Cy] at t0
  have t1:DataW.trod enc Tryz.prog W 0 (fun _=>true) true n 26 ((cs.drop 1).take (Tryz.prog.cellsOf 26))=some (y1.1,y1.2):=a 1 _ rfl
  rw[AA] at t1
  have t2:DataW.trod enc Tryz.prog W 0 (fun _=>true) true n 26 ((cs.drop 7).take (Tryz.prog.cellsOf 26))=some (y2.1,y2.2):=a 2 _ rfl
  rw[AA] at t2
  have t3:DataW.trod enc Tryz.prog W 0 (fun _=>true) true n 26 ((cs.drop 13).take (Tryz.prog.cellsOf 26))=some (y3.1,y3.2):=a 3 _ rfl
  rw[AA] at t3
  have t4:DataW.trod enc Tryz.prog W 0 (fun _=>true) true n 27 ((cs.drop 19).take (Tryz.prog.cellsOf 27))=some (y4.1,y4.2):=a 4 _ rfl
  rw[Hz] at t4
  have t5:DataW.trod enc Tryz.prog W 0 (fun _=>true) true n 28 ((cs.drop 20).take (Tryz.prog.cellsOf 28))=some (y5.1,y5.2):=a 5 _ rfl
  rw[Ha] at t5
  have t6:DataW.trod enc Tryz.prog W 0 (fun _=>true) true n 29 ((cs.drop 21).take (Tryz.prog.cellsOf 29))=some (y6.1,y6.2):=a 6 _ rfl
  rw[GK] at t6
  have t7:DataW.trod enc Tryz.prog W 0 (fun _=>true) true n 30 ((cs.drop 22).take (Tryz.prog.cellsOf 30))=some (y7.1,y7.2):=a 7 _ rfl
  rw[Hb] at t7
  have t8:DataW.trod enc Tryz.prog W 0 (fun _=>true) true n 31 ((cs.drop 23).take (Tryz.prog.cellsOf 31))=some (y8.1,y8.2):=a 8 _ rfl
  rw[He] at t8
  have t9:DataW.trod enc Tryz.prog W 0 (fun _=>true) true n 32 ((cs.drop 24).take (Tryz.prog.cellsOf 32))=some (y9.1,y9.2):=a 9 _ rfl
  rw[GL] at t9
  have y:DataW.trod enc Tryz.prog W 0 (fun _=>true) true n 33 ((cs.drop 25).take (Tryz.prog.cellsOf 33))=some (y10.1,y10.2):=a 10 _ rfl
  rw[Hf] at y
  have p:=A8 cs 0 1
  obtain ⟨q0,af⟩:∃q,q=(cs.drop 0).take 1:=⟨_,rfl⟩
  rw[<-af] at t0 p
  have s1:=A8 cs 1 6
  obtain ⟨q1,ab⟩:∃q,q=(cs.drop 1).take 6:=⟨_,rfl⟩
  rw[<-ab] at t1 s1
  have s2:=A8 cs 7 6
  obtain ⟨q2,ah⟩:∃q,q=(cs.drop 7).take 6:=⟨_,rfl⟩
  rw[<-ah] at t2 s2
  have s3:=A8 cs 13 6
  obtain ⟨q3,ac⟩:∃q,q=(cs.drop 13).take 6:=⟨_,rfl⟩
  rw[<-ac] at t3 s3
  have s4:=A8 cs 19 1
  obtain ⟨q4,T⟩:∃q,q=(cs.drop 19).take 1:=⟨_,rfl⟩
  rw[<-T] at t4 s4
  have s5:=A8 cs 20 1
  obtain ⟨q5,Z⟩:∃q,q=(cs.drop 20).take 1:=⟨_,rfl⟩
  rw[<-Z] at t5 s5
  have s6:=A8 cs 21 1
  obtain ⟨q6,V⟩:∃q,q=(cs.drop 21).take 1:=⟨_,rfl⟩
  rw[<-V] at t6 s6
  have s7:=A8 cs 22 1
  obtain ⟨q7,M⟩:∃q,q=(cs.drop 22).take 1:=⟨_,rfl⟩
  rw[<-M] at t7 s7
  have s8:=A8 cs 23 1
  obtain ⟨q8,a8⟩:∃q,q=(cs.drop 23).take 1:=⟨_,rfl⟩
  rw[<-a8] at t8 s8
  have s9:=A8 cs 24 1
  obtain ⟨q9,U⟩:∃q,q=(cs.drop 24).take 1:=⟨_,rfl⟩
  rw[<-U] at t9 s9
  have G:=A8 cs 25 1
  obtain ⟨ag,A⟩:∃q,q=(cs.drop 25).take 1:=⟨_,rfl⟩
  rw[<-A] at y G
  have a0:cs.drop 26=[]:=by rw[<-f];exact zI
  simp only[Nat.reduceAdd] at p s1 s2 s3 s4 s5 s6 s7 s8 s9 G
  rw[xf] at p
  rw[s1] at p
  rw[s2] at p
  rw[s3] at p
  rw[s4] at p
  rw[s5] at p
  rw[s6] at p
  rw[s7] at p
  rw[s8] at p
  rw[s9] at p
  rw[G] at p
  rw[a0] at p
  obtain ⟨v0,e0,z0⟩:=E7 t0
  obtain ⟨v1,e1,_⟩:=AM n q1 _ _ t1 (fun k l=>g k (by
   rw[u.1,DataW.weights,qV]
   exact yC (j:=1) (t:=26) (d:=y1.1) rfl rfl _ l))
  obtain ⟨v2,e2,_⟩:=AM n q2 _ _ t2 (fun k l=>g k (by
   rw[u.1,DataW.weights,qV]
   exact yC (j:=2) (t:=26) (d:=y2.1) rfl rfl _ l))
  obtain ⟨v3,e3,_⟩:=AM n q3 _ _ t3 (fun k l=>g k (by
   rw[u.1,DataW.weights,qV]
   exact yC (j:=3) (t:=26) (d:=y3.1) rfl rfl _ l))
  obtain ⟨ap,K⟩:∃v,q4=[v]:=zO.1 (by rw[T,zc,xw,f];rfl)
  rw[K] at t4
  obtain ⟨a6,l4,e4,P,ak,_⟩:=E6 (Pr:=fun cs x=>K5 (JL W) W cs x) qN LL RS (by decide) (fun m _ cs d ps h g r=>Tw m cs d ps h g r) t4 (fun k l=>g k (by
   rw[u.1,DataW.weights,qV]
   exact yC (j:=4) (t:=27) (d:=y4.1) rfl rfl _ l))
  rw[e4] at K
  obtain ⟨ax,D⟩:∃v,q5=[v]:=zO.1 (by rw[Z,zc,xw,f];rfl)
  rw[D] at t5
  obtain ⟨a7,l5,e5,a2,am,_⟩:=E6 (Pr:=fun cs x=>I1 (JL W) W cs x) qO Lf PZ (by decide) (fun m _ cs d ps h g r=>RW m cs d ps h g r) t5 (fun k l=>g k (by
   rw[u.1,DataW.weights,qV]
   exact yC (j:=5) (t:=28) (d:=y5.1) rfl rfl _ l))
  rw[e5] at D
  obtain ⟨aw,C⟩:∃v,q6=[v]:=zO.1 (by rw[V,zc,xw,f];rfl)
  rw[C] at t6
  obtain ⟨O,l6,e6,Cs,an,_⟩:=E6 (Pr:=fun cs x=>F0 (JL W) W cs x) qP JJ OL (by decide) (fun m _ cs d ps h g r=>Q3 m cs d ps h g r) t6 (fun k l=>g k (by
   rw[u.1,DataW.weights,qV]
   exact yC (j:=6) (t:=29) (d:=y6.1) rfl rfl _ l))
  rw[e6] at C
  obtain ⟨au,I⟩:∃v,q7=[v]:=zO.1 (by rw[M,zc,xw,f];rfl)
  rw[I] at t7
  obtain ⟨X,l7,e7,UR,ao,_⟩:=E6 (Pr:=fun cs x=>I2 (JL W) W cs x) qR Lg Q0 (by decide) (fun m _ cs d ps h g r=>RX m cs d ps h g r) t7 (fun k l=>g k (by
   rw[u.1,DataW.weights,qV]
   exact yC (j:=7) (t:=30) (d:=y7.1) rfl rfl _ l))
  rw[e7] at I
  obtain ⟨ar,J⟩:∃v,q8=[v]:=zO.1 (by rw[a8,zc,xw,f];rfl)
  rw[J] at t8
  obtain ⟨aa,R,e8,s,ai,_⟩:=E6 (Pr:=fun cs (x:BG × Au)=>GQ (JL W) W x.2 cs x.1) qS Li RT (by decide) (fun m _ cs d ps h g r=>Tx m cs d ps h g r) t8 (fun k l=>g k (by
   rw[u.1,DataW.weights,qV]
   exact yC (j:=8) (t:=31) (d:=y8.1) rfl rfl _ l))
  rw[e8] at J
  obtain ⟨av,F⟩:∃v,q9=[v]:=zO.1 (by rw[U,zc,xw,f];rfl)
  rw[F] at t9
  obtain ⟨N,l9,e9,Q,Y,_⟩:=E6 (Pr:=fun cs x=>F1 (JL W) W cs x) qT JK OM (by decide) (fun m _ cs d ps h g r=>Q4 m cs d ps h g r) t9 (fun k l=>g k (by
   rw[u.1,DataW.weights,qV]
   exact yC (j:=9) (t:=32) (d:=y9.1) rfl rfl _ l))
  rw[e9] at F
  obtain ⟨aj,w⟩:∃v,ag=[v]:=zO.1 (by rw[A,zc,xw,f];rfl)
  rw[w] at y
  obtain ⟨z,ae,ad,QD,E,_⟩:=E6 (Pr:=fun cs x=>I3 (JL W) W cs x) qU Lj Q2 (by decide) (fun m _ cs d ps h g r=>RZ m cs d ps h g r) y (fun k l=>g k (by
   rw[u.1,DataW.weights,qV]
   exact yC (j:=10) (t:=33) (d:=y10.1) rfl rfl _ l))
  rw[ad] at w
  refine ⟨⟨0,a6,a7,O,X,aa,N,z,R.map (·.2)⟩,⟨v0,v1,v2,v3,l4,l5,l6,l7,R.map (·.1),l9,ae⟩,⟨z0,⟨q1,q2,q3,?_,e1,e2,e3⟩,P,a2,Cs,UR,⟨?_,?_,fun i hi=>?_⟩,Q,QD⟩,E,Y⟩
  ·rw[p,e0,K,D,C,I,J,F,w];simp
  ·rw[yX];exact s.1
  ·rw[yX];exact s.2.1
  ·have S:i < R.length:=by simpa using hi
   obtain ⟨b,o,c,g1,g2,g3,g4,g5⟩:=s.2.2 i S
   refine ⟨b,o,c,g1,g2,g3,g4,?_⟩
   have e:A2 ⟨0,a6,a7,O,X,aa,N,z,R.map (·.2)⟩ i=(R[i]).2:=by
    unfold A2;simp[xK,S]
   rw[e]
   simpa using g5
end
end Go.Proofs.YtjofgpfocadomaaGreatDoor
