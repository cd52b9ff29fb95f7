/- Parts of the proof, in short words: Ka La Na Ga Gb Shelf Nb Oa Nc Nd Nf Ng Oe Oc Pe Rq Ea Eb Ef Fa Ec Sq Yo Wa -/
import Derived.Test.YtjofgpfocadomaaGreatDoorProg
import Derived.WalkKit
import Derived.WalkSpells
import Derived.Below
import Derived.Deep.MidRow
import Derived.Lib.Hide
import Derived.RangeFuncNested
import Derived.RangeFuncCalls
import Derived.RangeFuncLeaves
import Derived.Shelf.Small.Strs
import Derived.Shelf.Strings.Search1
import Derived.Shelf.Strings.Search2
import Derived.Shelf.Strings.Search3
import Derived.Shelf.LaysM
import Derived.Shelf.Strings.Shaped
import Derived.Laws.EntriesVeiled
import Derived.WalkLawsBesides
import Derived.Deep.QuietTactic
import Derived.BigQuiet
import Derived.Lib.IndexAny
import Derived.OwnWalkIn
import Derived.TacticsInMore
import Derived.LoopNIn
import Derived.LoopIn
import Derived.Maps.Own
import Derived.Maps.Views
import Derived.OrdersHeld
import Derived.Deep.RegionHeld3
import Derived.Orders
import Derived.OrdersIn
import Derived.TacticsIn
import Derived.ControlIn
import Derived.Great.BuildSlice
import Derived.Deep.Slices
import Derived.Deep.Fields
import Derived.ChangeSame
import Derived.OpenShut
import Derived.SizedLaws
set_option maxRecDepth 100000
set_option maxHeartbeats 4000000
set_option linter.unusedSimpArgs false
set_option linter.defProp false
namespace Go.Proofs.YtjofgpfocadomaaGreatDoor
open Go.RowKit
theorem yb{p:Prop}(h:p):Hid p:=h
theorem _root_.Go.RowKit.Hid.o{p:Prop}(h:Hid p):p:=h
def yd:=@Array.getElem?_eq_some_iff
def yf:=@Nat.le_refl
def yg:=@Below.refl
def yi:=@Option.some.inj
def yj:=@wpList_load_mid
def yk:=@List.getElem?_eq_getElem
def ym:=@Bool.eq_false_iff
def yn:=@List.length_append
def yq:=@if_neg
def yt:=@Nat.le_trans
def yu:=@Nat.lt_of_lt_of_le
def yv:=@List.length_cons
def yw:=@Nat.zero_add
def yx:=@List.getElem?_eq_some_iff
def yy:=@List.mem_append
def yz:=@DataW.weights_mem_each
def yA:=@Below.heap_alloc
def yB:=@Array.getD_eq_getD_getElem?
def yC:=@congrArg
def yD:=@if_pos
def yE:=@List.length_nil
def yF:=@Bool.and_eq_true
def yG:=@List.take_succ_eq_append_getElem
def yH:=@Nat.zero_le
def yI:=@List.append_assoc
def yJ:=@List.getElem_mem
def yK:=@List.cons_append
def yL:=@Array.getElem?_modify
def yM:=@List.size_toArray
def yN:=@List.mem_cons
def yO:=@World.block_lt_of_cell?
def yP:=@List.nil_append
def yQ:=@List.take_length
def yR:=@of_decide_eq_true
def yS:=@List.append_nil
def yT:=@List.length_map
def yU:=@List.all_eq_true
def yV:=@List.getElem?_append_right
def yW:=@List.mem_flatMap
def yX:=@callsIn_wide
def yY:=@World.size_alloc
def yZ:=@List.not_mem_nil
def z6:=@all_oneCell_toArray
def z7:=@decide_eq_true_eq
def z8:=@Option.some.injEq
def za:=@wpList_store_row
def zb:=@List.length_take
def zc:=@List.flatMap_cons
def ze:=@List.mem_range
def zg:=@List.mem_iff_getElem
def zh:=@heap_setCell_other
def zj:=@CallsIn.mono
def zk:=@List.mem_singleton
def zl:=@World.rangeAt_of_block
def zm:=@heap_setCell_same
def zn:=@results_none
def zo:=@List.getElem?_append_left
def zp:=@Prod.mk.injEq
def zq:=@List.flatten_cons
def zr:=@List.length_eq_zero_iff
def zs:=@List.flatMap_nil
def zt:=@Array.all_eq_true_iff_forall_mem
def zu:=@List.map_cons
def zv:=@bodyPost_ret
def zw:=@wpList_plain
def zx:=@Array.replicate_succ
def zy:=@Array.replicate_zero
def zA:=@WideShapes.add_plain
def zB:=@List.length_zipIdx
def zC:=@Oper.semAt_some
def zD:=@List.map_append
def zE:=@List.getElem_map
def zF:=@List.drop_length
def zG:=@List.append_toArray
def zH:=@List.flatMap_append
def zI:=@DataW.trod_struct
def zJ:=@StepsIn.trans
def zK:=@or_false
def zL:=@List.length_eq_one_iff
def zM:=@List.push_toArray
def zN:=@Nat.add_assoc
def zO:=@List.take_append_drop
def zP:=@List.map_nil
def zQ:=@Nat.lt_or_ge
def zR:=@List.mem_of_getElem?
def zS:=@List.setIfInBounds_toArray
def zT:=@List.cons.inj
def zU:=@List.take_zero
def zV:=@List.drop_zero
def zW:=@List.drop_eq_getElem_cons
def zX:=@Ne.symm
def zY:=@Array.mem_of_getElem?
def zZ:=@List.getElem?_take
def xb:=@List.flatten_nil
def xd:=@getD_set_ne
def xf:=@decide_eq_true
def xg:=@List.forall_mem_cons
def xi:=@Nat.add_sub_cancel_left
def xj:=@List.all_eq_false
def xk:=@decide_eq_false
def xm:=@if_true
def xp:=@ByteArray.toList_eq
def xq:=@Sem.run_bind
def xr:=@Option.bind_some
def xt:=@List.flatMap_map
def xu:=@List.map_flatMap
def xv:=@List.length_drop
def xw:=@mem_ready
def xx:=@List.getElem_append_right
def xy:=@List.getElem_append_left
def xz:=@Option.map_some
def xA:=@Array.getElem?_eq_none
def xB:=@List.set_cons_zero
def xD:=@List.set_cons_succ
def xE:=@Below.heap_setCell
def xF:=@Nat.lt_of_le_of_lt
def xG:=@List.cons.injEq
def xH:=@List.getD_eq_getElem?_getD
def xI:=@Nat.mul_le_mul_right
def xJ:=@fenced_wide
def xK:=@stepR_block
def xL:=@wp_load_mid
def xM:=@List.zipIdx_cons
def xN:=@Nat.lt_succ_self
def xO:=@List.mem_map
def xP:=@List.ext_getElem
def xQ:=@Value.pointer.injEq
def xR:=@List.getElem?_cons_zero
def xS:=@Bool.eq_iff_iff
def xT:=@Array.any_eq_true'
def xU:=@List.take_of_length_le
def xV:=@List.zipWith_cons_cons
def xW:=@Value.slice.injEq
def xX:=@Result.andThen_ok
def xY:=@run_underlying
def xZ:=@wpIn_wide
def qb:=@Lib.cell?_alloc_some
def qc:=@rounds_succ
def qd:=@List.getElem_zipIdx
def qg:=@List.all_append
def qi:=@List.foldl_cons
def qj:=@Nat.add_zero
def qk:=@true_and
def qm:=@Nat.le_of_lt
def qn:=@Nat.mul_le_mul
def qo:=@Array.mk.injEq
def qp:=@setRow_heap
def qr:=@Nat.one_mul
def qt:=@Addr.mk.injEq
def qu:=@Nat.lt_irrefl
def qv:=@Tryz.underlying107
def qw:=@Tryz.underlying109
def qz:=@Tryz.underlying131
def qA:=@Tryz.underlying135
def qB:=@Tryz.underlying137
def qC:=@Tryz.underlying158
def qF:=@Tryz.underlying24
def qG:=@Tryz.underlying26
def qH:=@Tryz.underlying27
def qI:=@Tryz.underlying28
def qJ:=@Tryz.underlying29
def qK:=@Tryz.underlying3
def qL:=@Tryz.underlying30
def qM:=@Tryz.underlying31
def qN:=@Tryz.underlying32
def qO:=@Tryz.underlying33
def qP:=@Tryz.underlying35
def qQ:=@Tryz.underlying39
def qR:=@Tryz.underlying4
def qS:=@Tryz.underlying44
def qU:=@Tryz.underlying50
def qV:=@Tryz.underlying64
def qW:=@Tryz.underlying66
def qX:=@Tryz.underlying68
def qY:=@Tryz.underlying70
def qZ:=@Tryz.underlying73
def j0:=@Tryz.underlying81
def j1:=@Tryz.underlying9
def j2:=@Tryz.underlying92
def j3:=@Tryz.underlying94
abbrev iV (n:Int):Value:=.int .i64 n
abbrev aV (b o:Nat):Addr:=⟨b,o,none⟩
abbrev pV (b o:Nat):Value:=.pointer (some ⟨b,o,none⟩)
abbrev LV:=List Value
abbrev LB:=List ByteArray
abbrev NP:=Nat->Prop
abbrev QT:=Exit->Act->World->Prop
abbrev _root_.Go.World.z (w:World):Nat:=w.heap.size
abbrev j4:Array Value:=#[.int .i64 0,.int .i64 0,.int .i64 0,.int .i64 0,.int .i64 0,.int .i64 0]
abbrev j5:Array Value:=#[.int .i64 0,.int .i64 0]
abbrev j6:Array Value:=#[.int .i64 0,.int .i64 0,.int .i64 0]
abbrev j7:List Value:=[.int .i64 0,.int .i64 0,.int .i64 0]
abbrev j8:Array Value:=#[.int .i64 0]
abbrev j9:Array Value:=#[.slice none 0 0]
end Go.Proofs.YtjofgpfocadomaaGreatDoor
namespace Go.Proofs.YtjofgpfocadomaaGreatDoor
open Go.RowKit
variable{F:Fence}{n:Nat}{P:Program}
def OZ(P:Program)(l:Nat)(R:Ending->World->Prop):Exit->Act->World->Prop
 |.normal,_,w=>∃v w',(Instr.endRound l none).run P w=.ok v w'∧R (.returned v) w'
 |.ret,_,w=>∃v w',(Instr.endRound l (some .ret)).run P w=.ok v w'∧R (.returned v) w'
 |.exit id,_,w=>∃v w',(Instr.endRound l (some (.exit id))).run P w=.ok v w'∧R (.returned v) w'
 |.goto t,_,w=>∃v w',(Instr.endRound l (some (.goto t))).run P w=.ok v w'∧R (.returned v) w'
 |.panic chain,a,w=>a.defers=[]∧R (.panicked chain) w
 |.outgrown,_,_=>False
theorem FJ{l:Nat}{f:FuncId}{fn:Func}(C:P.funcs[f]?=some fn){tmps:Array Value}{assign body:Code}{w:World}{R:Ending->World->Prop}(G:F.fn f)
 (h:assign.wpIn (F.inRound l) n P (Exit.then (fun u E=>∃z,(Instr.beginRound l).run P E=.ok () z∧body.wpIn (F.inRound l) n P (OZ P l R) u z) (fun _ _ _=>False))
   {tmps:=tmps,defers:=[]} w):
  RoundIn F n P l f tmps assign body w R:=by
 refine ⟨G,fun c cs hr=>?_⟩
 let b:Frame:={(default:Frame) with fn:=f,kind:=.normal,roundOf:=some l}
 have B:Frame.round l f tmps assign body .normal=b.atR {tmps:=tmps,defers:=[]} [.code assign,.beginRound,.code body]:=by
  simp[Frame.round,Frame.atR,b]
 have j:(F.inRound l).room ((c::cs).length+1+n):=hr
 have i:(F.inRound l).fn b.fn:=G
 obtain ⟨e,u,E,s,g⟩:=h b [.beginRound,.code body] (c::cs) rfl i j
 rw[<-B] at g
 cases e with
 |normal=>
  obtain ⟨z,A,q⟩:=s
  have x:StepsIn (Machine.fenced P (F.inRound l)) P (lone (b.atR u [.beginRound,.code body]) (c::cs) E) (lone (b.atR u [.code body]) (c::cs) z):=
   .one (fenced_calm (fr:=b.atR u [.beginRound,.code body]) i j rfl) (stepR_beginRound rfl A)
  obtain ⟨J,r,I,k,a⟩:=q b [] (c::cs) rfl i j
  cases J with
  |normal=>
   obtain ⟨v,p,d,m⟩:=k
   exact ⟨.returned v,p,m,(zJ g x).trans (zJ a (.one (fenced_calm (fr:=b.atR r []) i j rfl) (stepR_round_end rfl rfl d)))⟩
  |ret=>
   obtain ⟨v,p,d,m⟩:=k
   obtain ⟨y,hs⟩:=a.2 rfl
   exact ⟨.returned v,p,m,(zJ g x).trans (zJ hs (.one (fenced_calm (fr:=b.atR r (.code .ret::y)) i j rfl) (stepR_round_ret rfl rfl d)))⟩
  |exit id=>
   obtain ⟨v,p,d,m⟩:=k
   obtain ⟨y,D,hs⟩:=a.2 rfl rfl
   exact ⟨.returned v,p,m,(zJ g x).trans (zJ hs (.one (fenced_calm (fr:=b.atR r (.code (.exit id)::y)) i j rfl) (stepR_round_exit rfl rfl D d)))⟩
  |goto t=>
   obtain ⟨v,p,d,m⟩:=k
   obtain ⟨y,D,hs⟩:=a.2 rfl rfl
   exact ⟨.returned v,p,m,(zJ g x).trans (zJ hs (.one (fenced_calm (fr:=b.atR r (.code (.goto t)::y)) i j rfl) (stepR_round_goto rfl rfl D d)))⟩
  |panic chain=>
   obtain ⟨hd,m⟩:=k
   obtain ⟨o,hs⟩:=a
   have H:Frame.leaving P {b.atR r o with mode:=.panicking chain} I (.panicked chain):=⟨rfl,hd,fn,C⟩
   exact ⟨.panicked chain,I,m,(zJ g x).trans (zJ hs (.one (fenced_leaving (fr:={b.atR r o with mode:=.panicking chain}) i j H) (step_leave_panicked H)))⟩
  |outgrown=>exact k.elim
 |exit id=>exact s.elim
 |goto t=>exact s.elim
 |ret=>exact s.elim
 |panic chain=>exact s.elim
 |outgrown=>exact s.elim
def AO(O:NP)(W W':World):Prop:=W.heap.size<=W'.heap.size∧∀b,O b->W'.heap[b]?=W.heap[b]?
theorem AO.refl(O:NP)(W:World):AO O W W:=⟨yf _,fun _ _=>rfl⟩
theorem AO.trans{O:NP}{A B C:World}(h:AO O A B)(k:AO O B C):AO O A C:=⟨yt h.1 k.1,fun b hb=>(k.2 b hb).trans (h.2 b hb)⟩
theorem AO.sub{O a:NP}{A B:World}(h:AO O A B)(hs:∀b,a b->O b):AO a A B:=⟨h.1,fun b hb=>h.2 b (hs b hb)⟩
def Ca{β:Type}(J:β->NP->World->Prop):Prop:=
 ∀s O W a W',J s O W->W.heap.size<=W'.heap.size->W'.os=W.os->W'.tape=W.tape->W'.output=W.output->(∀b,¬ O b->b < W.heap.size->W'.heap[b]?=W.heap[b]?)->(∀b,a b->O b∨W.heap.size<=b)->J s a W'
def TQ(F:Fence)(n:Nat)(P:Program)(g:Nat)(lb:Array Value)(Hd:World->Prop)(xs:List (Array Value))(own:Option (List PanicEntry)):Prop:=
 ∀(l:Nat) (J:Nat->NP->World->Prop) (Jx:NP->World->Prop) (Jp:List PanicEntry->NP->World->Prop) (W:World),
  Ca J->Ca (fun (_:Unit)=>Jx)->(∀a,Ca (fun (_:Unit)=>Jp a))->(∀k O W,J k O W->Hd W)->(∀O W,Jx O W->Hd W)->(∀a,own=some a->∀O W,J xs.length O W->Jp a O W)->
  (∀k (c:k < xs.length) O W1,J k O W1->W.heap.size<=W1.heap.size->(∀b,O b->W.heap.size<=b∧b < W1.heap.size)->YieldAt F (n - 1) P l xs[k] W1 fun e W'=>
   (e=.returned (.bool true)∧J (k+1) O W'∧AO O W1 W')∨(e=.returned (.bool false)∧Jx O W'∧AO O W1 W')∨(∃a,e=.panicked a∧Jp a O W'∧AO O W1 W'))->
  J 0 (fun _=>False) W->
  CallsIn F n P g (#[.func (.yield l) #[] #[]]++lb) W fun e W'=>
   ((∃v,e=.returned v)∧((own=none∧∃O,J xs.length O W')∨∃O,Jx O W'))∨∃a,e=.panicked a∧∃O,Jp a O W'
def Fz(f:FuncId)(P:Program)(c:Code)(Q:QT)(a:Act)(w:World):Prop:=
 ∀(b:Frame) (k:List Item) (cs:List Frame),b.roundOf=none->b.fn=f->
  ∃e d w',Q e d w'∧ArrivesIn (Machine.fenced P Fence.wide) P (lone (b.atR a (.code c::k)) cs w) b k cs e d w'
section
variable{f:FuncId}{Q:QT}{a:Act}{w:World}
theorem TR{c:Code}(h:c.wpIn Fence.wide n P Q a w):Fz f P c Q a w:=fun b k cs d _=>h b k cs d trivial (room_wide _)
theorem A4{c:Code}(h:c.wp P Q a w):Fz f P c Q a w:=TR (n:=0) (xZ.2 h)
theorem A9{x y:Code}(h:Fz f P x (Exit.then (Fz f P y Q) Q) a w):Fz f P (Code.seq x y) Q a w:=by
 intro b k cs i hb
 have h0:(lone (b.atR a (.code (.seq x y)::k)) cs w).fenced P Fence.wide:=xJ _ _
 obtain ⟨e,j,m,g,c⟩:=h b (.code y::k) cs i hb
 cases e with
 |normal=>
  obtain ⟨q,o,p,n,d⟩:=g b k cs i hb
  exact ⟨q,o,p,n,.of_steps (.head h0 stepR_seq c) d⟩
 |exit id=>exact ⟨_,j,m,g,.of_steps (.one h0 stepR_seq) (.pass (x:=.code y) rfl (fun _ _=>.inl (by simp)) c)⟩
 |goto l=>exact ⟨_,j,m,g,.of_steps (.one h0 stepR_seq) (.pass (x:=.code y) rfl (fun _ _=>.inl (by simp)) c)⟩
 |ret=>exact ⟨_,j,m,g,.of_steps (.one h0 stepR_seq) (.pass (x:=.code y) rfl (fun _ _=>.inl (by simp)) c)⟩
 |panic ch=>exact ⟨_,j,m,g,.of_steps (.one h0 stepR_seq) (.pass (x:=.code y) rfl (fun _ _=>.inl (by simp)) c)⟩
 |outgrown=>exact ⟨_,j,m,g,.of_steps (.one h0 stepR_seq) (.pass (x:=.code y) rfl (fun _ _=>.inl (by simp)) c)⟩
theorem D4{id:Nat}{c:Code}(h:Fz f P c (Exit.inBlock id Q) a w):Fz f P (Code.block id c) Q a w:=by
 intro b k cs q hb
 have h0:(lone (b.atR a (.code (.block id c)::k)) cs w).fenced P Fence.wide:=xJ _ _
 obtain ⟨e,j,o,g,d⟩:=h b (.inBlock id::k) cs q hb
 cases e with
 |normal=>exact ⟨.normal,j,o,g,.head h0 xK (zJ d (.one (xJ _ _) stepR_inBlock))⟩
 |exit id'=>
  by_cases i:id'=id
  ·simp only[Exit.inBlock,i,xm] at g
   exact ⟨.normal,j,o,g,.head h0 xK (d.1 k (by simp[exitTo,i]))⟩
  ·simp only[Exit.inBlock,i,if_false] at g
   have this:(id==id')=false:=by simp;exact fun h=>i h.symm
   have p:exitTo id' (.inBlock id::k)=exitTo id' k:=by simp[exitTo,this]
   exact ⟨.exit id',j,o,g,fun k' n=>.head h0 xK (d.1 k' (by rw[p];exact n)),
    fun m n=>let ⟨k₁,h1,h2⟩:=d.2 m (by rw[p];exact n);⟨k₁,h1,.head h0 xK h2⟩⟩
 |goto l=>
  have p:gotoIn l (.inBlock id::k)=gotoIn l k:=by simp[gotoIn]
  exact ⟨_,j,o,g,fun k' n=>.head h0 xK (d.1 k' (by rw[p];exact n)),
   fun m n=>let ⟨k₁,h1,h2⟩:=d.2 m (by rw[p];exact n);⟨k₁,h1,.head h0 xK h2⟩⟩
 |ret=>exact ⟨_,j,o,g,.of_steps (.one h0 xK) d⟩
 |panic ch=>exact ⟨_,j,o,g,.of_steps (.one h0 xK) d⟩
 |outgrown=>exact ⟨_,j,o,g,.of_steps (.one h0 xK) d⟩
end
def Uz(O:NP)(J:Nat->NP->World->Prop)(Jx:Code->NP->World->Prop)(Jp:List PanicEntry->NP->World->Prop)(k:Nat)(W:World):Exit->Act->World->Prop
 |.normal,_,W'=>AO O W W'∧J (k+1) O W'
 |.ret,_,W'=>AO O W W'∧Jx .ret O W'
 |.exit id,_,W'=>AO O W W'∧Jx (.exit id) O W'
 |.goto t,_,W'=>AO O W W'∧Jx (.goto t) O W'
 |.panic ch,a,W'=>a.defers=[]∧AO O W W'∧Jp ch O W'
 |.outgrown,_,_=>False
theorem Ca.put{β:Type}{J:β->NP->World->Prop}(h:Ca J){s:β}{O:NP}{W:World}{l:Nat}(a:O l)(o:Obj)(hs:J s O W):J s O (W.putObj l o):=
 h s O W O _ hs (by simp) rfl rfl rfl (fun b hb _=>World.putObj_heap_other (fun e=>hb (e▸a))) (fun b hb=>.inl hb)
theorem GJ{f:FuncId}{g:Operand}{ps:Array Tmp}{assign body:Code}{Q:QT}{a:Act}{w:World}
 (h:∃(l:Nat) (m:List Deferred) (E:World) (d:Deferred) (s:World) (gf:FuncId) (args:Array Value) (D:World),
   (Instr.enterLoop f a.tmps ps assign body none).run P w=.ok (l,m) E∧
   (resolve a.eval (rangeCall g l) 0).run P E=.ok d s∧
   (invoke d.target d.args).run P s=.ok (.enter gf args) D∧
   CallsIn Fence.wide (n - 1) P gf args D (rangePost Fence.wide n P l Q {a with defers:=m++a.defers})):
  Fz f P (Code.rangeFunc g ps assign body) Q a w:=by
 intro b k cs t hb
 obtain ⟨l,m,E,d,s,gf,args,D,G,x,u,O,r⟩:=h
 rw[<-t,<-hb] at G
 have j:=stepR_rangeFunc (P:=P) (b:=b) (a:=a) (k:=k) (cs:=cs) (w:=w) G x u
 obtain ⟨e,M,fr,C,i,N,o⟩:=r (b.atR {a with defers:=m++a.defers} (.inRangeFunc l::k)::cs) (room_wide _)
 cases e with
 |outgrown=>
  obtain ⟨J,K,A⟩:=C
  exact ⟨.outgrown,J,K,A,.inr (Outgrown.of_steps (.one j) i)⟩
 |returned v=>
  obtain ⟨q,F,y,H⟩:=C
  have p:StepsIn (Machine.fenced P Fence.wide) P (lone (b.atR a (.code (.rangeFunc g ps assign body)::k)) cs w) (lone (b.atR {a with defers:=m++a.defers} ((q.map Item.code).toList++k)) cs F):=by
   refine .head (xJ _ _) j (zJ i (.head (xJ _ _) ?_ (.one (xJ _ _) (stepR_endRangeFunc y))))
   rw[<-finish_atR_inRangeFunc l v];exact step_leave_returned o
  cases q with
  |none=>exact ⟨.normal,_,F,H,p⟩
  |some c=>
   obtain ⟨I,B,L,A,z⟩:=H b k cs t trivial (room_wide _)
   exact ⟨I,B,L,A,.of_steps p z⟩
 |panicked chain=>
  refine ⟨.panic chain,_,M,C,.inRangeFunc l::k,.head (xJ _ _) j (zJ i (.one (xJ _ _) ?_))⟩
  rw[<-Frame.raise_atR];exact step_leave_panicked o
theorem CA{f:FuncId}{fn:Func}(hf:P.funcs[f]?=some fn){g:Operand}{ps:Array Tmp}{assign body:Code}{Q:QT}{a:Act}{w:World}
 {gf:Nat}{lb:Array Value}(hg:a.eval g=.func (.func gf) #[] lb)(eg:∀args w,(callFunc gf args).run P w=.ok (.enter gf args) w)
 {Hd:World->Prop}{xs:List (Array Value)}{own:Option (List PanicEntry)}(a7:TQ Fence.wide (n - 1) P gf lb Hd xs own)(ac:∀x∈xs,x.size=ps.size)
 (J:Nat->NP->World->Prop)(Jx:Code->NP->World->Prop)(Jp:List PanicEntry->NP->World->Prop)(A:Nat->Act->NP->World->Prop)
 (hJ:Ca J)(H:∀c,Ca (fun (_:Unit)=>Jx c))(ad:∀y,Ca (fun (_:Unit)=>Jp y))(hA:∀a,Ca (fun k=>A k a))(af:∀k O W,J k O W->Hd W)(ab:∀c O W,Jx c O W->Hd W)(a0:∀y,own=some y->∀O W,J xs.length O W->Jp y O W)
 (h0:J 0 (fun _=>False) w)
 (F:∀k (hk:k < xs.length) O W l,J k O W->O l->(∃r,W.heap[l]?=some (.loop r))->(∀b,O b->b < W.heap.size)->assign.wpIn (Fence.wide.inRound l) (n - 1 - 1) P (Exit.then (fun X W₁=>AO O W W₁∧A k X O W₁) (fun _ _ _=>False))
   {tmps:=(ps.zip xs[k]).foldl (fun t (p,v)=>t.setIfInBounds p v) a.tmps,defers:=[]} W)
 (V:∀k (_:k < xs.length) O W l X,O l->(∃r,W.heap[l]?=some (.loop r))->(∀b,O b->b < W.heap.size)->A k X O W->body.wpIn (Fence.wide.inRound l) (n - 1 - 1) P (Uz O J Jx Jp k W) X W)
 (S:own=none->∀D O W,w.heap.size<=D->O D->J xs.length O W->W.heap[D]?=some (.deferred (some []))->Q .normal {a with defers:={target:=.collected D,args:=#[]}::a.defers} W)
 (U:∀D c O W,w.heap.size<=D->O D->Jx c O W->W.heap[D]?=some (.deferred (some []))->c.wpIn Fence.wide n P Q {a with defers:={target:=.collected D,args:=#[]}::a.defers} W)
 (L:∀D y O W,w.heap.size<=D->O D->Jp y O W->W.heap[D]?=some (.deferred (some []))->Q (.panic y) {a with defers:={target:=.collected D,args:=#[]}::a.defers} W):
  Fz f P (Code.rangeFunc g ps assign body) Q a w:=by
 refine GJ (n:=n) ?_
 obtain ⟨j,o⟩:∃j:LoopState->Option Code->Loop,j=fun st pe=>{state:=st,pending:=pe,fn:=f,tmps:=a.tmps,params:=ps,assign,body,defers:=w.heap.size}:=⟨_,rfl⟩
 obtain ⟨z,G⟩:∃z,(w.alloc (.deferred (some []))).alloc (.loop (j .ready none))=z:=⟨_,rfl⟩
 have al:z.heap.size=w.heap.size+2:=by rw[<-G];simp
 have ah:z.heap[w.heap.size+1]?=some (.loop (j .ready none)):=by
  rw[<-G];have:=World.alloc_heap_new (w.alloc (.deferred (some []))) (.loop (j .ready none));rwa [yY] at this
 have ae:z.heap[w.heap.size]?=some (.deferred (some [])):=by
  rw[<-G];exact (yA _ _ _ (by simp)).trans (World.alloc_heap_new w _)
 have aj:J 0 (fun b=>False∨b=w.heap.size∨b=w.heap.size+1) z:=by
  rw[<-G]
  refine hJ 0 _ w _ _ h0 (by simp;omega) rfl rfl rfl (fun b _ hb=>?_) (fun b hb=>.inr ?_)
  ·rw[yA _ _ _ (by simp;omega),yA _ _ _ hb]
  ·rcases hb with hb|rfl|rfl
   ·exact hb.elim
   ·exact yf _
   ·omega
 refine ⟨w.heap.size+1,[{target:=.collected w.heap.size,args:=#[]}],z,{target:=.fn (.func gf) lb,args:=#[.func (.yield (w.heap.size+1)) #[] #[]]},z,gf,
  #[.func (.yield (w.heap.size+1)) #[] #[]]++lb,z,?_,?_,?_,?_⟩
 ·rw[<-G,o];exact run_enterLoop_outer _ _ _ _ _
 ·simp only[resolve,hg]
  simp[go_sem]
 ·simp[invoke,go_sem,eg]
 generalize hD:w.heap.size=D at*
 generalize hl:D+1=l at*
 have ak:D < l:=by omega
 refine (a7 l
  (fun k O W=>J k (fun b=>O b∨b=D∨b=l) W∧W.heap[l]?=some (.loop (j .ready none))∧W.heap[D]?=some (.deferred (some []))∧(∀b,O b->z.heap.size<=b)∧z.heap.size<=W.heap.size)
  (fun O W=>∃c,Jx c (fun b=>O b∨b=D∨b=l) W∧W.heap[l]?=some (.loop (j .done (some c)))∧W.heap[D]?=some (.deferred (some []))∧(∀b,O b->z.heap.size<=b)∧z.heap.size<=W.heap.size)
  (fun y O W=>Jp y (fun b=>O b∨b=D∨b=l) W∧W.heap[D]?=some (.deferred (some []))∧(∀b,O b->z.heap.size<=b)∧z.heap.size<=W.heap.size) z ?_ ?_ ?_ ?_ ?_ ?_ ?_ ⟨aj,ah,ae,fun b hb=>hb.elim,yf _⟩).mono ?_
 ·rintro k O W O' W' ⟨h1,h2,h3,q,h5⟩ Z T ht hu i R
  refine ⟨hJ k _ W _ W' h1 Z T ht hu (fun b hb B=>i b (fun h=>hb (.inl h)) B) (fun b hb=>?_),?_,?_,fun b hb=>?_,by omega⟩
  ·rcases hb with hb|hb
   ·rcases R b hb with h|h
    ·exact .inl (.inl h)
    ·exact .inr h
   ·exact .inl (.inr hb)
  ·exact (i l (fun h=>by have:=q l h;omega) (yd.1 h2).1).trans h2
  ·exact (i D (fun h=>by have:=q D h;omega) (yd.1 h3).1).trans h3
  ·rcases R b hb with h|h
   ·exact q b h
   ·omega
 ·rintro _ O W O' W' ⟨c,h1,h2,h3,q,h5⟩ Z T ht hu i R
  refine ⟨c,H c () _ W _ W' h1 Z T ht hu (fun b hb B=>i b (fun h=>hb (.inl h)) B) (fun b hb=>?_),?_,?_,fun b hb=>?_,by omega⟩
  ·rcases hb with hb|hb
   ·rcases R b hb with h|h
    ·exact .inl (.inl h)
    ·exact .inr h
   ·exact .inl (.inr hb)
  ·exact (i l (fun h=>by have:=q l h;omega) (yd.1 h2).1).trans h2
  ·exact (i D (fun h=>by have:=q D h;omega) (yd.1 h3).1).trans h3
  ·rcases R b hb with h|h
   ·exact q b h
   ·omega
 ·rintro y _ O W O' W' ⟨h1,h3,q,h5⟩ Z T ht hu i R
  refine ⟨ad y () _ W _ W' h1 Z T ht hu (fun b hb B=>i b (fun h=>hb (.inl h)) B) (fun b hb=>?_),?_,fun b hb=>?_,by omega⟩
  ·rcases hb with hb|hb
   ·rcases R b hb with h|h
    ·exact .inl (.inl h)
    ·exact .inr h
   ·exact .inl (.inr hb)
  ·exact (i D (fun h=>by have:=q D h;omega) (yd.1 h3).1).trans h3
  ·rcases R b hb with h|h
   ·exact q b h
   ·omega
 ·exact fun k O W h=>af k _ W h.1
 ·exact fun O W h=>h.elim fun c h=>ab c _ W h.1
 ·exact fun y he O W h=>⟨a0 y he _ W h.1,h.2.2.1,h.2.2.2.1,h.2.2.2.2⟩
 ·
  rintro k hk O W ⟨h1,h2,h3,q,h5⟩ Z ag
  have hy:=run_yield (P:=P) (args:=xs[k]) h2 (by rw[o];exact ac _ (yJ hk))
  rw[o] at hy
  have aa:∀b,(O b∨b=D∨b=l)->b < W.heap.size:=fun b hb=>by
   rcases hb with hb|hb|hb
   ·exact (ag b hb).2
   ·rw[hb];exact (yd.1 h3).1
   ·rw[hb];exact (yd.1 h2).1
  refine ⟨f,_,assign,body,hy,FJ hf trivial (wpIn_mono (F k hk _ W l h1 (.inr (.inr rfl)) ⟨_,h2⟩ aa) ?_)⟩
  clear hy
  rintro e X Wa E
  cases e with
  |normal=>
   obtain ⟨hs,ai⟩:=E
   have I:=(hs.2 l (.inr (.inr rfl))).trans h2
   have N:=(hs.2 D (.inr (.inl rfl))).trans h3
   have B:=(yd.1 I).1
   refine ⟨_,run_beginRound I (by rw[o]),?_⟩
   have a2:(Wa.putObj l (.loop {j .ready none with state:=.busy})).heap[l]?=some (.loop {j .ready none with state:=.busy}):=World.putObj_heap_same B
   have a8:(Wa.putObj l (.loop {j .ready none with state:=.busy})).heap[D]?=some (.deferred (some [])):=(World.putObj_heap_other (by omega)).trans N
   refine wpIn_mono (V k hk _ _ l X (.inr (.inr rfl)) ⟨_,a2⟩ (fun b hb=>by have:=aa b hb;have:=hs.1;simp;omega) ((hA X).put (.inr (.inr rfl)) _ ai)) ?_
   have K:∀(d:Option Code) (C:World),AO (fun b=>O b∨b=D∨b=l) (Wa.putObj l (.loop {j .ready none with state:=.busy})) C->
     (Instr.endRound l d).run P C=.ok (.bool d.isNone) (C.putObj l (.loop (j (if d.isNone then .ready else .done) d)))∧
     (C.putObj l (.loop (j (if d.isNone then .ready else .done) d))).heap[l]?=some (.loop (j (if d.isNone then .ready else .done) d))∧
     (C.putObj l (.loop (j (if d.isNone then .ready else .done) d))).heap[D]?=some (.deferred (some []))∧
     z.heap.size<=(C.putObj l (.loop (j (if d.isNone then .ready else .done) d))).heap.size∧
     AO O W (C.putObj l (.loop (j (if d.isNone then .ready else .done) d))):=fun d C m=>by
    have a6:=(m.2 l (.inr (.inr rfl))).trans a2
    have hr:=run_endRound (P:=P) d a6
    rw[o] at hr ⊢
    have z1:=hs.1
    have z3:Wa.heap.size<=C.heap.size:=by have:=m.1;simpa using this
    refine ⟨hr,World.putObj_heap_same (yd.1 a6).1,(World.putObj_heap_other (by omega)).trans ((m.2 D (.inr (.inl rfl))).trans a8),by simp;omega,by simp;omega,fun b hb=>?_⟩
    have M:b≠l:=fun e=>by have:=q b hb;subst e;omega
    rw[World.putObj_heap_other M,m.2 b (.inl hb),World.putObj_heap_other M,hs.2 b (.inl hb)]
   rintro e a3 C E
   cases e with
   |normal=>
    obtain ⟨m,u⟩:=E
    obtain ⟨hr,g1,I,N,Y⟩:=K none C m
    exact ⟨_,_,hr,.inl ⟨rfl,⟨hJ.put (.inr (.inr rfl)) _ u,g1,I,q,N⟩,Y⟩⟩
   |ret=>
    obtain ⟨m,u⟩:=E
    obtain ⟨hr,g1,I,N,Y⟩:=K (some .ret) C m
    exact ⟨_,_,hr,.inr (.inl ⟨rfl,⟨.ret,(H .ret).put (s:=()) (.inr (.inr rfl)) _ u,g1,I,q,N⟩,Y⟩)⟩
   |exit id=>
    obtain ⟨m,u⟩:=E
    obtain ⟨hr,g1,I,N,Y⟩:=K (some (.exit id)) C m
    exact ⟨_,_,hr,.inr (.inl ⟨rfl,⟨.exit id,(H (.exit id)).put (s:=()) (.inr (.inr rfl)) _ u,g1,I,q,N⟩,Y⟩)⟩
   |goto t=>
    obtain ⟨m,u⟩:=E
    obtain ⟨hr,g1,I,N,Y⟩:=K (some (.goto t)) C m
    exact ⟨_,_,hr,.inr (.inl ⟨rfl,⟨.goto t,(H (.goto t)).put (s:=()) (.inr (.inr rfl)) _ u,g1,I,q,N⟩,Y⟩)⟩
   |panic y=>
    obtain ⟨hd,m,u⟩:=E
    have z1:=hs.1
    have z3:Wa.heap.size<=C.heap.size:=by have:=m.1;simpa using this
    refine ⟨hd,.inr (.inr ⟨y,rfl,⟨u,(m.2 D (.inr (.inl rfl))).trans a8,q,by omega⟩,by omega,fun b hb=>?_⟩)⟩
    have M:b≠l:=fun e=>by have:=q b hb;subst e;omega
    rw[m.2 b (.inl hb),World.putObj_heap_other M,hs.2 b (.inl hb)]
   |outgrown=>exact E.elim
  |exit id=>exact E.elim
  |goto t=>exact E.elim
  |ret=>exact E.elim
  |panic y=>exact E.elim
  |outgrown=>exact E.elim
 ·
  rintro e W2 (⟨⟨v,rfl⟩,(⟨T,O,h1,h2,h3,q,h5⟩|⟨O,c,h1,h2,h3,q,h5⟩)⟩|⟨y,rfl,O,h1,h2,q,h5⟩)
  ·exact ⟨none,_,by have:=run_endLoop (P:=P) h2 (by rw[o];simp);rw[o] at this;exact this,S T D _ _ (yf _) (.inr (.inl rfl)) (hJ.put (.inr (.inr rfl)) _ h1) ((World.putObj_heap_other (by omega)).trans h3)⟩
  ·exact ⟨some c,_,by have:=run_endLoop (P:=P) h2 (by rw[o];simp);rw[o] at this;exact this,U D c _ _ (yf _) (.inr (.inl rfl)) ((H c).put (s:=()) (.inr (.inr rfl)) _ h1) ((World.putObj_heap_other (by omega)).trans h3)⟩
  ·exact L D y _ W2 (yf _) (.inr (.inl rfl)) h1 h2
theorem Bb{f:FuncId}{fn:Func}{c:Code}{args:Array Value}{w:World}{R:Ending->World->Prop}(t:P.funcs[f]?=some fn)(hb:fn.body=some c)
 (h:Fz f P c (bodyPostM Fence.wide n P fn R) {tmps:=args++Array.replicate (fn.ntmps - args.size) undef,defers:=[]} w):Calls P f args w R:=by
 refine (yX (n:=n)).1 ⟨trivial,fun cs hr=>?_⟩
 let b:Frame:={(default:Frame) with fn:=f,kind:=.normal,roundOf:=none}
 have k:Frame.enter P f args .normal=
   b.atR {tmps:=args++Array.replicate (fn.ntmps - args.size) undef,defers:=[]} [.code c]:=by
  simp[Frame.enter,Frame.atR,t,hb,b]
 obtain ⟨e,o,w',p,a⟩:=h b [] cs rfl rfl
 rw[<-k] at a
 cases e with
 |normal=>
  obtain ⟨q,d,g,s,hs,j,r⟩:=leaves_stepsInM o.defers .returning w' {b.atR o [] with mode:=.returning} cs rfl rfl rfl t rfl trivial hr p
  exact ⟨q,d,g,s,ComesIn.of_steps (zJ a (.one (xJ _ _) (stepR_end rfl))) hs,j,r⟩
 |ret=>
  obtain ⟨i,m⟩:=a.1 rfl
  obtain ⟨q,d,g,s,hs,j,r⟩:=leaves_stepsInM o.defers .returning w' {b.atR o i with mode:=.returning} cs rfl rfl rfl t rfl trivial hr p
  exact ⟨q,d,g,s,ComesIn.of_steps m hs,j,r⟩
 |panic chain=>
  obtain ⟨i,m⟩:=a
  obtain ⟨q,d,g,s,hs,j,r⟩:=leaves_stepsInM o.defers (.panicking chain) w' {b.atR o i with mode:=.panicking chain} cs rfl rfl rfl t rfl trivial hr p
  exact ⟨q,d,g,s,ComesIn.of_steps m hs,j,r⟩
 |exit id=>exact p.elim
 |goto l=>exact p.elim
 |outgrown=>exact ⟨.outgrown,w',b,p,a.resolve_left (by simp[b]),rfl,trivial⟩
end Go.Proofs.YtjofgpfocadomaaGreatDoor
namespace Go.Proofs.YtjofgpfocadomaaGreatDoor
open Go.RowKit
inductive Ex where
 |mk (op n u:Int) (rn:ByteArray) (ri:Int) (args:List Ex)
namespace Ex
def op:Ex->Int|.mk o _ _ _ _ _=>o
def n:Ex->Int|.mk _ n _ _ _ _=>n
def u:Ex->Int|.mk _ _ u _ _ _=>u
def rn:Ex->ByteArray|.mk _ _ _ r _ _=>r
def ri:Ex->Int|.mk _ _ _ _ i _=>i
def args:Ex->List Ex|.mk _ _ _ _ _ l=>l
end Ex
mutual
def AH(N:NP)(w:World):Ex->LV->Prop
 |.mk op n u rn ri args,cs=>∃a cap,cs=[.int .i64 op,.int .i64 n,.int .i64 u,.string rn,.int .i64 ri,.slice a args.length cap]∧args.length<=140737488355328∧rn.size<=maxLen∧D5 N w a 0 args
def D5(N:NP)(w:World)(a:Option Addr):Nat->List Ex->Prop
 |_,[]=>True
 |i,e::r=>(∃b o cs,a=some ⟨b,o,none⟩∧N b∧w.rangeAt b (o+i*6) cs∧AH N w e cs)∧D5 N w a (i+1) r
end
def Si(N:NP)(w:World)(v:Value)(l:List Ex):Prop:=∃a cap,v=.slice a l.length cap∧l.length<=140737488355328∧D5 N w a 0 l
theorem Dr{N:NP}{w:World}{a:Option Addr}:∀ {l:List Ex} {k:Nat},D5 N w a k l->∀i (h:i < l.length),∃b o cs,a=some ⟨b,o,none⟩∧N b∧w.rangeAt b (o+(k+i)*6) cs∧AH N w l[i] cs
 |[],_,_,i,h=>by simp at h
 |e::r,k,hr,i,h=>by
  rw[D5] at hr
  cases i with
  |zero=>exact hr.1
  |succ i=>
   obtain ⟨b,o,cs,h1,h2,h3,c⟩:=Dr hr.2 i (by simpa using h)
   exact ⟨b,o,cs,h1,h2,by rw[show k+(i+1)=k+1+i by omega];exact h3,by simpa using c⟩
theorem Qd{N:NP}{w:World}{a:Option Addr}:∀ {l:List Ex} {k:Nat},(∀i (h:i < l.length),∃b o cs,a=some ⟨b,o,none⟩∧N b∧w.rangeAt b (o+(k+i)*6) cs∧AH N w l[i] cs)->D5 N w a k l
 |[],_,_=>by rw[D5];trivial
 |e::r,k,h=>by
  rw[D5]
  refine ⟨h 0 (by simp),Qd fun i hi=>?_⟩
  obtain ⟨b,o,cs,h1,h2,h3,c⟩:=h (i+1) (by simpa using hi)
  exact ⟨b,o,cs,h1,h2,by rw[show k+1+i=k+(i+1) by omega];exact h3,by simpa using c⟩
theorem A0{w w':World}{b o:Nat}{cs:LV}(h:w.rangeAt b o cs)(hb:w'.heap[b]?=w.heap[b]?):w'.rangeAt b o cs:=fun j v a=>by
 have:=h j v a
 unfold World.cell? at this ⊢
 rw[hb];exact this
mutual
theorem AH.same{N N':NP}{w w':World}(c:∀b,N b->N' b)(hb:∀b,N b->w'.heap[b]?=w.heap[b]?):∀ {e:Ex} {cs:LV},AH N w e cs->AH N' w' e cs
 |.mk _ _ _ _ _ args,_,h=>by
  rw[AH] at h ⊢
  obtain ⟨a,cap,h1,h2,h3,d⟩:=h
  exact ⟨a,cap,h1,h2,h3,D5.same c hb d⟩
theorem D5.same{N N':NP}{w w':World}{a:Option Addr}(c:∀b,N b->N' b)(hb:∀b,N b->w'.heap[b]?=w.heap[b]?):∀ {l:List Ex} {k:Nat},D5 N w a k l->D5 N' w' a k l
 |[],_,h=>by rw[D5];trivial
 |e::r,k,h=>by
  rw[D5] at h ⊢
  obtain ⟨⟨b,o,cs,h1,h2,h3,f⟩,d⟩:=h
  exact ⟨⟨b,o,cs,h1,c b h2,A0 h3 (hb b h2),AH.same c hb f⟩,D5.same c hb d⟩
end
theorem Si.same{N N':NP}{w w':World}{v:Value}{l:List Ex}(c:∀b,N b->N' b)(hb:∀b,N b->w'.heap[b]?=w.heap[b]?)(h:Si N w v l):Si N' w' v l:=by
 obtain ⟨a,cap,h1,h2,h3⟩:=h
 exact ⟨a,cap,h1,h2,D5.same c hb h3⟩
mutual
def AB:Ex->Nat
 |.mk _ _ _ _ _ args=>AX args
def AX:List Ex->Nat
 |[]=>0
 |e::r=>max (1+AB e) (AX r)
end
mutual
theorem IQ{P:Ex->Prop}(h:∀op n u rn ri args,(∀e∈args,P e)->P (.mk op n u rn ri args)):∀e,P e
 |.mk op n u rn ri args=>h op n u rn ri args (Qe h args)
theorem Qe{P:Ex->Prop}(h:∀op n u rn ri args,(∀e∈args,P e)->P (.mk op n u rn ri args)):∀l:List Ex,∀e∈l,P e
 |[]=>fun _ a=>by simp at a
 |x::r=>fun e a=>(yN.1 a).elim (fun q=>q▸IQ h x) (Qe h r e)
end
theorem Ji:∀(l:List Ex) (e:Ex),AX (l++[e])=max (AX l) (1+AB e)
 |[],e=>by simp[AX]
 |x::r,e=>by
  rw[yK,AX,AX,Ji r e,Nat.max_assoc]
theorem Jj{l:List Ex}{i:Nat}(h:i < l.length):AX (l.take (i+1))=max (AX (l.take i)) (1+AB l[i]):=by
 rw[yG h,Ji]
theorem IT:∀(l:List Ex) (i:Nat),AX (l.take i)<=AX l
 |[],i=>by simp
 |x::r,0=>by simp[AX]
 |x::r,i+1=>by
  rw[List.take_succ_cons,AX,AX]
  have:=IT r i
  omega
theorem P0{l:List Ex}{i:Nat}(h:i < l.length):1+AB l[i]<=AX l:=by
 have h1:=Jj h
 have h2:=IT l (i+1)
 omega
theorem AH.cells{N:NP}{w:World}{e:Ex}{cs:LV}(h:AH N w e cs):∃a cap,cs=[.int .i64 e.op,.int .i64 e.n,.int .i64 e.u,.string e.rn,.int .i64 e.ri,.slice a e.args.length cap]∧e.args.length<=140737488355328∧e.rn.size<=maxLen∧D5 N w a 0 e.args:=by
 cases e
 rw[AH] at h
 exact h
theorem AH.mk'{N:NP}{w:World}{e:Ex}{a:Option Addr}{cap:Nat}(h1:e.args.length<=140737488355328)(h2:e.rn.size<=maxLen)(h3:D5 N w a 0 e.args):
  AH N w e [.int .i64 e.op,.int .i64 e.n,.int .i64 e.u,.string e.rn,.int .i64 e.ri,.slice a e.args.length cap]:=by
 cases e
 rw[AH]
 exact ⟨a,cap,rfl,h1,h2,h3⟩
theorem Bn{w:World}{b o:Nat}{x0 c a e f d:Value}(h:w.rangeAt b o [x0,c,a,e,f,d]):w.cell? ⟨b,o,none⟩=some x0∧w.cell? ⟨b,o+1,none⟩=some c∧w.cell? ⟨b,o+2,none⟩=some a∧w.cell? ⟨b,o+3,none⟩=some e∧w.cell? ⟨b,o+4,none⟩=some f∧w.cell? ⟨b,o+5,none⟩=some d:=
 ⟨h 0 _ rfl,h 1 _ rfl,h 2 _ rfl,h 3 _ rfl,h 4 _ rfl,h 5 _ rfl⟩
theorem Ea{N:NP}{B:Nat}{w w':World}(hN:∀b,N b->b < B)(hb:Below B w w'):∀b,N b->w'.heap[b]?=w.heap[b]?:=fun b h=>hb.block b (hN b h)
set_option linter.unusedSimpArgs false
theorem GK(n:Int):IntKind.u64.wrap n=n % 18446744073709551616:=by
 unfold IntKind.wrap;simp (decide:=true) [IntKind.signed,IntKind.bits]
theorem FA(n:Int)(h1: -4611686018427387904<=n)(h2:n<=4611686018427387904)(w:World):Calls Tryz.prog 28 #[.int .i64 n] w fun e w'=>e=.returned (.int .u64 (n.natAbs:Int))∧w'=w:=by
 have b:n < 0->IntKind.u64.wrap (-IntKind.u64.wrap n)=(n.natAbs:Int):=by
  intro a;rw[GK,GK];omega
 go_enter Tryz.func28,Tryz.ntmps28
 by_cases a:n < 0
 ·have c:=b a
  go_wp2
  go_ret
  exact ⟨rfl,rfl⟩
 ·clear b
  have hd:decide (n < 0)=false:=by simpa using a
  go_wp2
  go_ret
  exact ⟨yC (fun z=>Ending.returned (Value.int IntKind.u64 z)) (show n=(n.natAbs:Int) by omega),rfl⟩
end Go.Proofs.YtjofgpfocadomaaGreatDoor
namespace Go.Proofs.YtjofgpfocadomaaGreatDoor
open Go.RowKit
variable{F:Fence}{n:Nat}{P:Program}
def Vh(F:Fence)(n:Nat)(P:Program)(g:Nat)(lb:Array Value)(K:NP)(c:World)(Hd:World->Prop)(xs:List (Array Value))(own:Option (List PanicEntry)):Prop:=
 ∀(l:Nat) (J:Nat->NP->World->Prop) (Jx:NP->World->Prop) (Jp:List PanicEntry->NP->World->Prop) (W:World),
  Ca J->Ca (fun (_:Unit)=>Jx)->(∀a,Ca (fun (_:Unit)=>Jp a))->(∀k O W,J k O W->Hd W)->(∀O W,Jx O W->Hd W)->(∀a,own=some a->∀O W,J xs.length O W->Jp a O W)->
  (∀k (d:k < xs.length) O W1,J k O W1->W.heap.size<=W1.heap.size->(∀b,O b->(K b∨W.heap.size<=b)∧b < W1.heap.size)->YieldAt F (n - 1) P l xs[k] W1 fun e W'=>
   (e=.returned (.bool true)∧J (k+1) O W'∧AO O W1 W')∨(e=.returned (.bool false)∧Jx O W'∧AO O W1 W')∨(∃a,e=.panicked a∧Jp a O W'∧AO O W1 W'))->
  (∀b,K b->b < W.heap.size)->AO K c W->J 0 K W->
  CallsIn F n P g (#[.func (.yield l) #[] #[]]++lb) W fun e W'=>
   ((∃v,e=.returned v)∧((own=none∧∃O,J xs.length O W')∨∃O,Jx O W'))∨∃a,e=.panicked a∧∃O,Jp a O W'
theorem Nj{f:FuncId}{fn:Func}(hf:P.funcs[f]?=some fn){g:Operand}{ps:Array Tmp}{assign body:Code}{Q:QT}{a:Act}{w:World}
 {gf:Nat}{lb:Array Value}(hg:a.eval g=.func (.func gf) #[] lb)(eg:∀args w,(callFunc gf args).run P w=.ok (.enter gf args) w)
 {Hd:World->Prop}{xs:List (Array Value)}{own:Option (List PanicEntry)}{K:NP}(hK:∀b,K b->b < w.heap.size)(a7:Vh Fence.wide (n - 1) P gf lb K w Hd xs own)(ac:∀x∈xs,x.size=ps.size)
 (J:Nat->NP->World->Prop)(Jx:Code->NP->World->Prop)(Jp:List PanicEntry->NP->World->Prop)(A:Nat->Act->NP->World->Prop)
 (hJ:Ca J)(I:∀c,Ca (fun (_:Unit)=>Jx c))(ad:∀z,Ca (fun (_:Unit)=>Jp z))(hA:∀a,Ca (fun k=>A k a))(af:∀k O W,J k O W->Hd W)(ab:∀c O W,Jx c O W->Hd W)(a0:∀z,own=some z->∀O W,J xs.length O W->Jp z O W)
 (h0:J 0 K w)
 (H:∀k (hk:k < xs.length) O W l,J k O W->O l->(∃r,W.heap[l]?=some (.loop r))->(∀b,O b->b < W.heap.size)->assign.wpIn (Fence.wide.inRound l) (n - 1 - 1) P (Exit.then (fun Z W₁=>AO O W W₁∧A k Z O W₁) (fun _ _ _=>False))
   {tmps:=(ps.zip xs[k]).foldl (fun t (p,v)=>t.setIfInBounds p v) a.tmps,defers:=[]} W)
 (Y:∀k (_:k < xs.length) O W l Z,O l->(∃r,W.heap[l]?=some (.loop r))->(∀b,O b->b < W.heap.size)->A k Z O W->body.wpIn (Fence.wide.inRound l) (n - 1 - 1) P (Uz O J Jx Jp k W) Z W)
 (U:own=none->∀D O W,w.heap.size<=D->O D->J xs.length O W->W.heap[D]?=some (.deferred (some []))->Q .normal {a with defers:={target:=.collected D,args:=#[]}::a.defers} W)
 (X:∀D c O W,w.heap.size<=D->O D->Jx c O W->W.heap[D]?=some (.deferred (some []))->c.wpIn Fence.wide n P Q {a with defers:={target:=.collected D,args:=#[]}::a.defers} W)
 (N:∀D z O W,w.heap.size<=D->O D->Jp z O W->W.heap[D]?=some (.deferred (some []))->Q (.panic z) {a with defers:={target:=.collected D,args:=#[]}::a.defers} W):
  Fz f P (Code.rangeFunc g ps assign body) Q a w:=by
 refine GJ (n:=n) ?_
 obtain ⟨j,o⟩:∃j:LoopState->Option Code->Loop,j=fun st pe=>{state:=st,pending:=pe,fn:=f,tmps:=a.tmps,params:=ps,assign,body,defers:=w.heap.size}:=⟨_,rfl⟩
 obtain ⟨y,G⟩:∃y,(w.alloc (.deferred (some []))).alloc (.loop (j .ready none))=y:=⟨_,rfl⟩
 have am:y.heap.size=w.heap.size+2:=by rw[<-G];simp
 have ah:y.heap[w.heap.size+1]?=some (.loop (j .ready none)):=by
  rw[<-G];have:=World.alloc_heap_new (w.alloc (.deferred (some []))) (.loop (j .ready none));rwa [yY] at this
 have ae:y.heap[w.heap.size]?=some (.deferred (some [])):=by
  rw[<-G];exact (yA _ _ _ (by simp)).trans (World.alloc_heap_new w _)
 have aj:J 0 (fun b=>K b∨b=w.heap.size∨b=w.heap.size+1) y:=by
  rw[<-G]
  refine hJ 0 _ w _ _ h0 (by simp;omega) rfl rfl rfl (fun b _ hb=>?_) (fun b hb=>?_)
  ·rw[yA _ _ _ (by simp;omega),yA _ _ _ hb]
  ·rcases hb with hb|rfl|rfl
   ·exact .inl hb
   ·exact .inr (yf _)
   ·exact .inr (by omega)
 have ak:AO K w y:=by
  rw[<-G]
  exact ⟨by simp;omega,fun b hb=>by rw[yA _ _ _ (by have:=hK b hb;simp;omega),yA _ _ _ (hK b hb)]⟩
 refine ⟨w.heap.size+1,[{target:=.collected w.heap.size,args:=#[]}],y,{target:=.fn (.func gf) lb,args:=#[.func (.yield (w.heap.size+1)) #[] #[]]},y,gf,
  #[.func (.yield (w.heap.size+1)) #[] #[]]++lb,y,?_,?_,?_,?_⟩
 ·rw[<-G,o];exact run_enterLoop_outer _ _ _ _ _
 ·simp only[resolve,hg]
  simp[go_sem]
 ·simp[invoke,go_sem,eg]
 generalize hD:w.heap.size=D at*
 generalize hl:D+1=l at*
 have al:D < l:=by omega
 have B:∀b,K b->b < D:=hK
 refine (a7 l
  (fun k O W=>J k (fun b=>O b∨b=D∨b=l) W∧W.heap[l]?=some (.loop (j .ready none))∧W.heap[D]?=some (.deferred (some []))∧(∀b,O b->K b∨y.heap.size<=b)∧y.heap.size<=W.heap.size)
  (fun O W=>∃c,Jx c (fun b=>O b∨b=D∨b=l) W∧W.heap[l]?=some (.loop (j .done (some c)))∧W.heap[D]?=some (.deferred (some []))∧(∀b,O b->K b∨y.heap.size<=b)∧y.heap.size<=W.heap.size)
  (fun z O W=>Jp z (fun b=>O b∨b=D∨b=l) W∧W.heap[D]?=some (.deferred (some []))∧(∀b,O b->K b∨y.heap.size<=b)∧y.heap.size<=W.heap.size) y ?_ ?_ ?_ ?_ ?_ ?_ ?_ (fun b hb=>by have:=B b hb;omega) ak ⟨aj,ah,ae,fun b hb=>.inl hb,yf _⟩).mono ?_
 ·rintro k O W O' W' ⟨h1,h2,h3,q,h5⟩ hz V ht hu i T
  refine ⟨hJ k _ W _ W' h1 hz V ht hu (fun b hb C=>i b (fun h=>hb (.inl h)) C) (fun b hb=>?_),?_,?_,fun b hb=>?_,by omega⟩
  ·rcases hb with hb|hb
   ·rcases T b hb with h|h
    ·exact .inl (.inl h)
    ·exact .inr h
   ·exact .inl (.inr hb)
  ·exact (i l (fun h=>by have:=q l h;have:=B l;grind) (yd.1 h2).1).trans h2
  ·exact (i D (fun h=>by have:=q D h;have:=B D;grind) (yd.1 h3).1).trans h3
  ·rcases T b hb with h|h
   ·exact q b h
   ·exact .inr (by omega)
 ·rintro _ O W O' W' ⟨c,h1,h2,h3,q,h5⟩ hz V ht hu i T
  refine ⟨c,I c () _ W _ W' h1 hz V ht hu (fun b hb C=>i b (fun h=>hb (.inl h)) C) (fun b hb=>?_),?_,?_,fun b hb=>?_,by omega⟩
  ·rcases hb with hb|hb
   ·rcases T b hb with h|h
    ·exact .inl (.inl h)
    ·exact .inr h
   ·exact .inl (.inr hb)
  ·exact (i l (fun h=>by have:=q l h;have:=B l;grind) (yd.1 h2).1).trans h2
  ·exact (i D (fun h=>by have:=q D h;have:=B D;grind) (yd.1 h3).1).trans h3
  ·rcases T b hb with h|h
   ·exact q b h
   ·exact .inr (by omega)
 ·rintro z _ O W O' W' ⟨h1,h3,q,h5⟩ hz V ht hu i T
  refine ⟨ad z () _ W _ W' h1 hz V ht hu (fun b hb C=>i b (fun h=>hb (.inl h)) C) (fun b hb=>?_),?_,fun b hb=>?_,by omega⟩
  ·rcases hb with hb|hb
   ·rcases T b hb with h|h
    ·exact .inl (.inl h)
    ·exact .inr h
   ·exact .inl (.inr hb)
  ·exact (i D (fun h=>by have:=q D h;have:=B D;grind) (yd.1 h3).1).trans h3
  ·rcases T b hb with h|h
   ·exact q b h
   ·exact .inr (by omega)
 ·exact fun k O W h=>af k _ W h.1
 ·exact fun O W h=>h.elim fun c h=>ab c _ W h.1
 ·exact fun z he O W h=>⟨a0 z he _ W h.1,h.2.2.1,h.2.2.2.1,h.2.2.2.2⟩
 ·
  rintro k hk O W ⟨h1,h2,h3,q,h5⟩ hz ag
  have hy:=run_yield (P:=P) (args:=xs[k]) h2 (by rw[o];exact ac _ (yJ hk))
  rw[o] at hy
  have aa:∀b,(O b∨b=D∨b=l)->b < W.heap.size:=fun b hb=>by
   rcases hb with hb|hb|hb
   ·exact (ag b hb).2
   ·rw[hb];exact (yd.1 h3).1
   ·rw[hb];exact (yd.1 h2).1
  refine ⟨f,_,assign,body,hy,FJ hf trivial (wpIn_mono (H k hk _ W l h1 (.inr (.inr rfl)) ⟨_,h2⟩ aa) ?_)⟩
  clear hy
  rintro e Z Wa F
  cases e with
  |normal=>
   obtain ⟨hs,ai⟩:=F
   have L:=(hs.2 l (.inr (.inr rfl))).trans h2
   have S:=(hs.2 D (.inr (.inl rfl))).trans h3
   have C:=(yd.1 L).1
   refine ⟨_,run_beginRound L (by rw[o]),?_⟩
   have a2:(Wa.putObj l (.loop {j .ready none with state:=.busy})).heap[l]?=some (.loop {j .ready none with state:=.busy}):=World.putObj_heap_same C
   have a8:(Wa.putObj l (.loop {j .ready none with state:=.busy})).heap[D]?=some (.deferred (some [])):=(World.putObj_heap_other (by omega)).trans S
   refine wpIn_mono (Y k hk _ _ l Z (.inr (.inr rfl)) ⟨_,a2⟩ (fun b hb=>by have:=aa b hb;have:=hs.1;simp;omega) ((hA Z).put (.inr (.inr rfl)) _ ai)) ?_
   have M:∀(d:Option Code) (E:World),AO (fun b=>O b∨b=D∨b=l) (Wa.putObj l (.loop {j .ready none with state:=.busy})) E->
     (Instr.endRound l d).run P E=.ok (.bool d.isNone) (E.putObj l (.loop (j (if d.isNone then .ready else .done) d)))∧
     (E.putObj l (.loop (j (if d.isNone then .ready else .done) d))).heap[l]?=some (.loop (j (if d.isNone then .ready else .done) d))∧
     (E.putObj l (.loop (j (if d.isNone then .ready else .done) d))).heap[D]?=some (.deferred (some []))∧
     y.heap.size<=(E.putObj l (.loop (j (if d.isNone then .ready else .done) d))).heap.size∧
     AO O W (E.putObj l (.loop (j (if d.isNone then .ready else .done) d))):=fun d E m=>by
    have a6:=(m.2 l (.inr (.inr rfl))).trans a2
    have hr:=run_endRound (P:=P) d a6
    rw[o] at hr ⊢
    have z1:=hs.1
    have z3:Wa.heap.size<=E.heap.size:=by have:=m.1;simpa using this
    refine ⟨hr,World.putObj_heap_same (yd.1 a6).1,(World.putObj_heap_other (by omega)).trans ((m.2 D (.inr (.inl rfl))).trans a8),by simp;omega,by simp;omega,fun b hb=>?_⟩
    have R:b≠l:=fun e=>by have:=q b hb;have:=B b;subst e;grind
    rw[World.putObj_heap_other R,m.2 b (.inl hb),World.putObj_heap_other R,hs.2 b (.inl hb)]
   rintro e a3 E F
   cases e with
   |normal=>
    obtain ⟨m,u⟩:=F
    obtain ⟨hr,g1,L,S,g4⟩:=M none E m
    exact ⟨_,_,hr,.inl ⟨rfl,⟨hJ.put (.inr (.inr rfl)) _ u,g1,L,q,S⟩,g4⟩⟩
   |ret=>
    obtain ⟨m,u⟩:=F
    obtain ⟨hr,g1,L,S,g4⟩:=M (some .ret) E m
    exact ⟨_,_,hr,.inr (.inl ⟨rfl,⟨.ret,(I .ret).put (s:=()) (.inr (.inr rfl)) _ u,g1,L,q,S⟩,g4⟩)⟩
   |exit id=>
    obtain ⟨m,u⟩:=F
    obtain ⟨hr,g1,L,S,g4⟩:=M (some (.exit id)) E m
    exact ⟨_,_,hr,.inr (.inl ⟨rfl,⟨.exit id,(I (.exit id)).put (s:=()) (.inr (.inr rfl)) _ u,g1,L,q,S⟩,g4⟩)⟩
   |goto t=>
    obtain ⟨m,u⟩:=F
    obtain ⟨hr,g1,L,S,g4⟩:=M (some (.goto t)) E m
    exact ⟨_,_,hr,.inr (.inl ⟨rfl,⟨.goto t,(I (.goto t)).put (s:=()) (.inr (.inr rfl)) _ u,g1,L,q,S⟩,g4⟩)⟩
   |panic z=>
    obtain ⟨hd,m,u⟩:=F
    have z1:=hs.1
    have z3:Wa.heap.size<=E.heap.size:=by have:=m.1;simpa using this
    refine ⟨hd,.inr (.inr ⟨z,rfl,⟨u,(m.2 D (.inr (.inl rfl))).trans a8,q,by omega⟩,by omega,fun b hb=>?_⟩)⟩
    have R:b≠l:=fun e=>by have:=q b hb;have:=B b;subst e;grind
    rw[m.2 b (.inl hb),World.putObj_heap_other R,hs.2 b (.inl hb)]
   |outgrown=>exact F.elim
  |exit id=>exact F.elim
  |goto t=>exact F.elim
  |ret=>exact F.elim
  |panic z=>exact F.elim
  |outgrown=>exact F.elim
 ·
  rintro e W2 (⟨⟨v,rfl⟩,(⟨V,O,h1,h2,h3,q,h5⟩|⟨O,c,h1,h2,h3,q,h5⟩)⟩|⟨z,rfl,O,h1,h2,q,h5⟩)
  ·exact ⟨none,_,by have:=run_endLoop (P:=P) h2 (by rw[o];simp);rw[o] at this;exact this,U V D _ _ (yf _) (.inr (.inl rfl)) (hJ.put (.inr (.inr rfl)) _ h1) ((World.putObj_heap_other (by omega)).trans h3)⟩
  ·exact ⟨some c,_,by have:=run_endLoop (P:=P) h2 (by rw[o];simp);rw[o] at this;exact this,X D c _ _ (yf _) (.inr (.inl rfl)) ((I c).put (s:=()) (.inr (.inr rfl)) _ h1) ((World.putObj_heap_other (by omega)).trans h3)⟩
  ·exact N D z _ W2 (yf _) (.inr (.inl rfl)) h1 h2
end Go.Proofs.YtjofgpfocadomaaGreatDoor
namespace Go.Proofs
open Go.Shelf
def Tryz.lays137_ren:Go.Shelf.Ren:=⟨fun|137=>105|217=>107|266=>111|n=>n,fun|9=>9|5=>5|3=>3|n=>n,fun|n=>n⟩
theorem Tryz.lays137:Go.Proofs.Lays.n137 Tryz.prog Tryz.lays137_ren:={
 mixed:=by kernel_rfl
 f137:=Tryz.func105.trans (congrArg some (by kernel_rfl))
 f217:=Tryz.func107.trans (congrArg some (by kernel_rfl))
 f266:=Tryz.func111.trans (congrArg some (by kernel_rfl))
 t3:=Tryz.underlying3
 a3:=Tryz.isAgg3
 z3:=Tryz.sizeOf3
 v3:=Tryz.zeroValue3
 t5:=Tryz.underlying5
 a5:=Tryz.isAgg5
 z5:=Tryz.sizeOf5
 v5:=Tryz.zeroValue5
 t9:=Tryz.underlying9
 a9:=Tryz.isAgg9
 z9:=Tryz.sizeOf9
 v9:=Tryz.zeroValue9}
open Go.RowKit in
theorem Tryz.strings_IndexByte(s:ByteArray)(c:Int)(w:World):
  Calls Tryz.prog 105 #[.string s,.int .u8 c] w fun e w'=>e=.returned (.int .i64 (Lib.indexByte s.data.toList c.toNat.toUInt8))∧w'=w:=Any.strings_IndexByte Tryz.lays137 s c w
def Tryz.lays144_ren:Go.Shelf.Ren:=⟨fun|144=>81|143=>100|219=>106|217=>107|225=>108|224=>109|267=>110|266=>111|314=>112|n=>n,fun|9=>9|4=>4|3=>3|5=>5|46=>73|146=>194|51=>193|n=>n,fun|1=>6|n=>n⟩
theorem Tryz.lays144:Go.Proofs.Lays.n144 Tryz.prog Tryz.lays144_ren:={
 mixed:=by kernel_rfl
 f143:=Tryz.func100.trans (congrArg some (by kernel_rfl))
 f144:=Tryz.func81.trans (congrArg some (by kernel_rfl))
 f217:=Tryz.func107.trans (congrArg some (by kernel_rfl))
 f219:=Tryz.func106.trans (congrArg some (by kernel_rfl))
 f224:=Tryz.func109.trans (congrArg some (by kernel_rfl))
 f225:=Tryz.func108.trans (congrArg some (by kernel_rfl))
 f266:=Tryz.func111.trans (congrArg some (by kernel_rfl))
 f267:=Tryz.func110.trans (congrArg some (by kernel_rfl))
 f314:=Tryz.func112.trans (congrArg some (by kernel_rfl))
 t3:=Tryz.underlying3
 a3:=Tryz.isAgg3
 z3:=Tryz.sizeOf3
 v3:=Tryz.zeroValue3
 t4:=Tryz.underlying4
 a4:=Tryz.isAgg4
 z4:=Tryz.sizeOf4
 v4:=Tryz.zeroValue4
 t5:=Tryz.underlying5
 a5:=Tryz.isAgg5
 z5:=Tryz.sizeOf5
 v5:=Tryz.zeroValue5
 t9:=Tryz.underlying9
 a9:=Tryz.isAgg9
 z9:=Tryz.sizeOf9
 v9:=Tryz.zeroValue9
 t46:=Tryz.underlying73
 a46:=Tryz.isAgg73
 z46:=Tryz.sizeOf73
 v46:=Tryz.zeroValue73
 t51:=Tryz.underlying193
 a51:=Tryz.isAgg193
 z51:=Tryz.sizeOf193
 v51:=Tryz.zeroValue193
 t146:=Tryz.underlying194
 a146:=Tryz.isAgg194
 z146:=Tryz.sizeOf194
 v146:=Tryz.zeroValue194
 g1:=by kernel_rfl}
open Go.RowKit Go.Lib in
theorem Tryz.strings_Contains(s sub:ByteArray)(m:Int)(w:World)(hs:s.size < 4294967281)(hm:w.cell? ⟨6,0,none⟩=some (.int .i64 m)):
  Calls Tryz.prog 81 #[.string s,.string sub] w fun e w'=>e=.returned (.bool (Lib.contains s.data.toList sub.data.toList))∧w'=w:=Any.strings_Contains Tryz.lays144 s sub m w hs hm
def Tryz.laysM144_ren:Go.Shelf.Ren:=⟨fun|144=>81|143=>100|219=>106|217=>107|225=>108|224=>109|267=>110|266=>111|314=>112|n=>n,fun|9=>9|4=>4|3=>3|5=>5|46=>73|146=>194|51=>193|n=>n,fun|1=>6|n=>n⟩
theorem Tryz.laysM144:Go.Proofs.LaysM.n144 Tryz.prog Tryz.laysM144_ren:={
 mixed:=by kernel_rfl
 f143:=Tryz.func100.trans (congrArg some (by kernel_rfl))
 f144:=Tryz.func81.trans (congrArg some (by kernel_rfl))
 f217:=Tryz.func107.trans (congrArg some (by kernel_rfl))
 f219:=Tryz.func106.trans (congrArg some (by kernel_rfl))
 f224:=Tryz.func109.trans (congrArg some (by kernel_rfl))
 f225:=Tryz.func108.trans (congrArg some (by kernel_rfl))
 f266:=Tryz.func111.trans (congrArg some (by kernel_rfl))
 f267:=Tryz.func110.trans (congrArg some (by kernel_rfl))
 f314:=Tryz.func112.trans (congrArg some (by kernel_rfl))
 t3:=Tryz.underlying3
 a3:=Tryz.isAgg3
 z3:=Tryz.sizeOf3
 v3:=Tryz.zeroValue3
 t4:=Tryz.underlying4
 a4:=Tryz.isAgg4
 z4:=Tryz.sizeOf4
 v4:=Tryz.zeroValue4
 t5:=Tryz.underlying5
 a5:=Tryz.isAgg5
 z5:=Tryz.sizeOf5
 v5:=Tryz.zeroValue5
 t9:=Tryz.underlying9
 a9:=Tryz.isAgg9
 z9:=Tryz.sizeOf9
 v9:=Tryz.zeroValue9
 t46:=Tryz.underlying73
 a46:=Tryz.isAgg73
 z46:=Tryz.sizeOf73
 v46:=Tryz.zeroValue73
 t51:=Tryz.underlying193
 a51:=Tryz.isAgg193
 z51:=Tryz.sizeOf193
 v51:=Tryz.zeroValue193
 t146:=Tryz.underlying194
 a146:=Tryz.isAgg194
 z146:=Tryz.sizeOf194
 v146:=Tryz.zeroValue194
 g1:=by kernel_rfl
 i3:=by kernel_rfl
 i4:=by kernel_rfl
 i5:=by kernel_rfl
 i9:=by kernel_rfl
 i46:=by kernel_rfl
 i51:=by kernel_rfl
 i146:=by kernel_rfl
 m1:=by kernel_rfl
 s1_3:=fun w h=>Go.Proofs.cell_of_shapedOpen_int (zero:=#[.int .i64 0]) (t:=3) h (of_decide_eq_true (by kernel_rfl)) (by kernel_rfl) rfl (by kernel_rfl) (by kernel_rfl) Tryz.underlying3}
end Go.Proofs
namespace Go.Proofs.YtjofgpfocadomaaGreatDoor
open Go.RowKit
theorem Io{k:IntKind}{a b:Int}(h:a=b):Ending.returned (.int k a)=.returned (.int k b):=by rw[h]
theorem AJ{a b:Bool}(h:a=b):Ending.returned (.bool a)=.returned (.bool b):=by rw[h]
theorem Cp(e:Int)(w:World):Calls Tryz.prog 69 #[.bool true,.int .i64 e] w fun x w'=>x=.returned (.tuple #[])∧w'=w:=by
 go_enter Tryz.func69,Tryz.ntmps69
 go_wp2
 go_end0
 exact ⟨rfl,rfl⟩
theorem Cj(e:Int)(w:World):Calls Tryz.prog 69 #[.bool false,.int .i64 e] w fun x w'=>x=.panicked [{v:=.iface 40 (.int .i64 e),recovered:=false}]∧w'=w:=by
 go_enter Tryz.func69,Tryz.ntmps69
 go_wp2
 exact ⟨rfl,rfl,rfl⟩
theorem QX:∀(e:Ex) {N:NP} {w:World} {cs:LV},AH N w e cs->(∀b,N b->b < w.heap.size)->AB e<=1000000->
  Calls Tryz.prog 79 #[.agg cs.toArray] w fun x w'=>x=.returned (.int .i64 (AB e))∧Below w.heap.size w w':=by
 refine IQ fun op nn u rn ri args ih=>?_
 intro N w cs h hN hd
 rw[AH] at h
 obtain ⟨a,cap,rfl,Q,hr,j⟩:=h
 have q:=yb j
 have y:=yb hN
 have O:=yb ih
 have H:AB (.mk op nn u rn ri args)=AX args:=rfl
 rw[H] at hd ⊢
 have F:=yb hd
 generalize K:args.length=m at Q ⊢
 have L:=yb K
 clear j hN ih H hd K
 go_enter Tryz.func79,Tryz.ntmps79
 go_wp2
 go_loopw [2,8] (fun R G wr=>∃i:Nat,R=iV (AX (args.take i))∧G=iV i∧i<=m∧Hid (Below w.heap.size w wr)) (fun _ G _=>m - (intOf G).toNat)
 case atStart=>exact ⟨0,by simp[AX],rfl,yH _,yb ((yg _ _).alloc (yf _) _)⟩
 case round=>
  obtain ⟨i,rfl,rfl,hi,v⟩:=hrel
  by_cases E:i < m
  ·have d:i < args.length:=by rw[L.o];exact E
   obtain ⟨b,o,cs,rfl,A,s,f⟩:=Dr q.o i d
   have p:=AH.same (fun b h=>h) (Ea y.o v.o) f
   have c:=A0 s (v.o.block b (y.o b A))
   obtain ⟨M,l,rfl,_⟩:=f.cells
   rw[yw] at c
   obtain ⟨c0,c1,c2,c3,c4,c5⟩:=Bn c
   have t:=P0 d
   have g:=Jj d
   have z:=IT args (i+1)
   have I:=yb (fun (W:World) (J:Below w.heap.size w W)=>O.o args[i] (yJ d) (AH.same (fun b h=>h) (Ea y.o J) f) (fun b h=>yu (y.o b h) J.size) (by have:=F.o;omega))
   generalize args[i]=x at*
   have k:=yb (v.o.alloc v.o.size (.cells #[iV x.op,iV x.n,iV x.u,.string x.rn,iV x.ri,.slice M x.args.length l] 26))
   have P:(i:Int) < (m:Int):=by omega
   generalize hdx:AB x=T at t g I ⊢
   have S:=yb hdx
   generalize C:AX (args.take i)=U at g ⊢
   have B:=yb g
   have h1:(T:Int)<=1000000:=by have:=F.o;omega
   have h2:(U:Int)<=1000000:=by have:=F.o;omega
   clear f p s c hdx C t g z
   go_wp2_with fail
   refine (I.o _ k.o).mono ?_
   rintro e w2 ⟨rfl,r⟩
   have D:=yb (k.o.trans (r.mono k.o.size))
   clear r
   go_wp2
   refine ⟨⟨i+1,?_,by go_num,by omega,D⟩,by simp[intOf];omega⟩
   rw[B.o]
   congr 1
   first|(split<;>omega)|omega
  ·obtain rfl:i=m:=by omega
   go_wp2
   go_ret
   refine ⟨Io (by rw[<-L.o,yQ]),v.o⟩
def CF(c:UInt8):Bool:=(97<=c.toNat&&c.toNat<=122)||(65<=c.toNat&&c.toNat<=90)
def IU(c:UInt8):Bool:=48<=c.toNat&&c.toNat<=57
def K6(c:UInt8):Bool:=c.toNat==32||c.toNat==9||c.toNat==10||c.toNat==13
def Fm(c:UInt8):Bool:=CF c||IU c||c.toNat==95
def Sj:List UInt8:=[123,125,40,41,59,44,61,58,46,60,62,33,43,45,42,47]
def Qf(c:UInt8):Bool:=Sj.contains c
def Cn(c:UInt8):Int:=if CF c then 2 else if IU c then 3 else if c.toNat==95 then 5 else if K6 c then 1 else if Qf c then 4 else 0
theorem Mv{c:UInt8}(h:(97<=c.toNat∧c.toNat<=122)∨(65<=c.toNat∧c.toNat<=90)):Cn c=2:=by
 have:CF c=true:=by simp[CF];omega
 simp[Cn,this]
theorem nl{c:UInt8}(h:¬ ((97<=c.toNat∧c.toNat<=122)∨(65<=c.toNat∧c.toNat<=90))):CF c=false:=by
 rw[ym];simp[CF];omega
theorem Nk{c:UInt8}(h:48<=c.toNat∧c.toNat<=57):Cn c=3:=by
 have:IU c=true:=by simp[IU];omega
 simp[Cn,this,nl (c:=c) (by omega)]
theorem nd{c:UInt8}(h:¬ (48<=c.toNat∧c.toNat<=57)):IU c=false:=by
 rw[ym];simp[IU];omega
theorem P1{c:UInt8}(h:c.toNat=95):Cn c=5:=by
 simp[Cn,nd (c:=c) (by omega),nl (c:=c) (by omega),h]
theorem Nl{c:UInt8}(h:c.toNat=32∨c.toNat=9∨c.toNat=10∨c.toNat=13):Cn c=1:=by
 have:K6 c=true:=by simp[K6];omega
 have h2:(c.toNat==95)=false:=by rw[ym];simp;omega
 simp[Cn,nd (c:=c) (by omega),nl (c:=c) (by omega),h2,this]
theorem P2{c:UInt8}(h:¬ ((97<=c.toNat∧c.toNat<=122)∨(65<=c.toNat∧c.toNat<=90)))(h1:¬ (48<=c.toNat∧c.toNat<=57))(h2:¬ c.toNat=95)
 (h3:¬ (c.toNat=32∨c.toNat=9∨c.toNat=10∨c.toNat=13)):Cn c=if Qf c then 4 else 0:=by
 have a:K6 c=false:=by rw[ym];simp[K6];omega
 simp[Cn,nd h1,nl h,h2,a]
theorem Sk(c:UInt8):(decide (0<=Lib.indexByte Sj ((c.toNat:Int)).toNat.toUInt8))=Qf c:=by
 have:((c.toNat:Int)).toNat.toUInt8=c:=by simp
 rw[this];exact (Lib.contains_iff_indexByte Sj c).symm
theorem P3(c:UInt8)(w:World):Calls Tryz.prog 105 #[.string {data:=#[123,125,40,41,59,44,61,58,46,60,62,33,43,45,42,47]},.int .u8 (c.toNat:Int)] w fun e w'=>∃n:Int,e=.returned (.int .i64 n)∧decide (0<=n)=Qf c∧w=w':=
 (Tryz.strings_IndexByte _ _ w).mono fun _ _ h=>⟨_,h.1,Sk c,h.2.symm⟩
theorem Hb(c:UInt8)(w:World):
  Calls Tryz.prog 99 #[.int .u8 (c.toNat:Int)] w fun e w'=>e=.returned (.int .i64 (Cn c))∧w=w':=by
 generalize hN:Cn c=N
 have d:=yb hN;clear hN
 go_enter Tryz.func99,Tryz.ntmps99
 go_wp2_with (first|(go_at_call 105;refine (P3 _ _).mono ?_;rintro e w' ⟨n,rfl,a,rfl⟩;have b:=yb a;clear a))
 all_goals
  go_ret
  refine ⟨Io ?_,rfl⟩
  rw[<-d.o]
  try simp only[beq_iff_eq,beq_eq_false_iff_ne,ne_eq] at*
  first
  |exact (Mv (by omega)).symm
  |exact (Nk (by omega)).symm
  |exact (P1 (by omega)).symm
  |exact (Nl (by omega)).symm
  |(rw[P2 (by omega) (by omega) (by omega) (by omega),<-b.o];simp[*])
def FK:List UInt8->Bool
 |[]=>false
 |c::r=>decide ((c::r).length<=32)&&CF c&&(c::r).all Fm
theorem QY(s:ByteArray)(k:Nat)(h:k < s.size):s.data.toList.take (k+1)=s.data.toList.take k++[s[k]]:=by
 rw[yG (by simpa using h)];rfl
theorem FB(s:ByteArray):s.data.toList.length=s.size:=by simp
theorem GL{s:ByteArray}(h:0 < s.size):FK s.data.toList=(decide (s.size<=32)&&CF (s[0])&&s.data.toList.all Fm):=by
 obtain ⟨⟨l⟩⟩:=s
 cases l with
 |nil=>simp[ByteArray.size] at h
 |cons c r=>rfl
theorem Nn{s:ByteArray}(h:¬ 0 < s.size):FK s.data.toList=false:=by
 obtain ⟨⟨l⟩⟩:=s
 cases l with
 |nil=>rfl
 |cons c r=>simp[ByteArray.size] at h
theorem P4{s:ByteArray}(h0:0 < s.size)(h:¬ s.size<=32):FK s.data.toList=false:=by rw[GL h0];simp[h]
theorem Np{s:ByteArray}(h0:0 < s.size)(h:CF s[0]=false):FK s.data.toList=false:=by rw[GL h0];simp[h]
theorem P5{s:ByteArray}{k:Nat}(a:k < s.size)(h:Fm s[k]=false):FK s.data.toList=false:=by
 rw[GL (by omega)]
 have:s.data.toList.all Fm=false:=by
  rw[xj]
  exact ⟨s[k],by rw[Array.mem_toList_iff];exact Array.getElem_mem _,by simp[h]⟩
 rw[this];simp
theorem QZ{s:ByteArray}(h0:0 < s.size)(a:s.size<=32)(h:CF s[0]=true)(b:(s.data.toList.take s.size).all Fm=true):FK s.data.toList=true:=by
 rw[xU (by simp)] at b
 rw[GL h0,b,h];simp[a]
theorem Sl{s:ByteArray}{k:Nat}(b:k < s.size)(a:(s.data.toList.take k).all Fm=true)(h:Fm s[k]=true):(s.data.toList.take (k+1)).all Fm=true:=by
 rw[QY s k b,qg,a];simp[h]
theorem Sm(P:UInt8->Bool)(h:(List.range 256).all (fun n=>P n.toUInt8)=true)(c:UInt8):P c=true:=by
 have:=yU.1 h c.toNat (by rw[ze];exact c.toNat_lt)
 simpa using this
theorem Qg(c:UInt8):(Cn c==2)=CF c:=by
 have:=Sm (fun c=>(Cn c==2)==CF c) (by decide+kernel) c
 simpa using this
theorem JR(c:UInt8):(Cn c==2||Cn c==3||Cn c==5)=Fm c:=by
 have:=Sm (fun c=>(Cn c==2||Cn c==3||Cn c==5)==Fm c) (by decide+kernel) c
 simpa using this
theorem R0{s:ByteArray}(h:0 < s.size):s.toList.isEmpty=false:=by
 rw[xp,List.isEmpty_eq_false_iff];intro e;have:=FB s;rw[e] at this;simp at this;omega
theorem Sn{s:ByteArray}(h:¬ 0 < s.size):s.toList.isEmpty=true:=by
 rw[xp,List.isEmpty_iff,<-zr,FB];omega
theorem So(c:UInt8)(n:Int)(h:Cn c=n)(w:World):
  Calls Tryz.prog 99 #[.int .u8 (c.toNat:Int)] w fun e w'=>e=.returned (.int .i64 n)∧w=w':=by
 rw[<-h];exact Hb c w
theorem R4{c:UInt8}(h:CF c=true):Cn c=2:=by
 have:=Qg c
 rw[h] at this
 simpa using this
theorem K7(c:UInt8)(h:CF c=false)(w:World):
  Calls Tryz.prog 99 #[.int .u8 (c.toNat:Int)] w fun e w'=>∃n:Int,(n !=2)=true∧e=.returned (.int .i64 n)∧w=w':=
 (Hb c w).mono fun _ _ a=>⟨_,by have:=Qg c;rw[h] at this;simpa using this,a⟩
theorem P6(c:UInt8)(h:Fm c=true)(w:World):
  Calls Tryz.prog 99 #[.int .u8 (c.toNat:Int)] w fun e w'=>∃n:Int,(n=2∨n=3∨n=5)∧e=.returned (.int .i64 n)∧w=w':=
 (Hb c w).mono fun _ _ a=>⟨_,by have:=JR c;rw[h] at this;simpa[or_assoc] using this,a⟩
theorem Mw(c:UInt8)(h:Fm c=false)(w:World):
  Calls Tryz.prog 99 #[.int .u8 (c.toNat:Int)] w fun e w'=>∃n:Int,(n !=2)=true∧(n !=3)=true∧(n !=5)=true∧e=.returned (.int .i64 n)∧w=w':=
 (Hb c w).mono fun _ _ a=>⟨_,by have:=JR c;rw[h] at this;simp at this;simp[this],by have:=JR c;rw[h] at this;simp at this;simp[this],by have:=JR c;rw[h] at this;simp at this;simp[this],a⟩
theorem Sp(s:ByteArray)(w:World)(hs:s.size<=maxLen):
  Calls Tryz.prog 80 #[.string s] w fun e w'=>e=.returned (.bool (FK s.data.toList))∧w=w':=by
 unfold maxLen at hs
 generalize hN:FK s.data.toList=N
 have d:=yb hN;clear hN
 by_cases h0:0 < s.size
 ·have j:=R0 h0
  by_cases b:s.size<=32
  ·have l:decide (32 < (s.size:Int))=false:=by simp;omega
   by_cases g:CF s[0]=true
   ·have a:=yb g;clear g
    go_enter Tryz.func80,Tryz.ntmps80
    go_wp2_with (first|(go_at_call 99;refine (So _ 2 (R4 a.o) _).mono ?_;rintro e w' ⟨rfl,rfl⟩))
    go_loop [3,4,20] (fun _ _ i=>∃k:Nat,k<=s.size∧i=iV k∧(s.data.toList.take k).all Fm=true) (fun _ _ i=>s.size - (intOf i).toNat)
    case atStart=>exact ⟨0,by omega,rfl,rfl⟩
    case round=>
     obtain ⟨k,q,rfl,m⟩:=hrel
     have n:=yb m;clear m
     by_cases c:k < s.size
     ·by_cases h:Fm s[k]=true
      ·have f:=yb h;clear h
       go_wp2_with (first|(go_at_call 99;refine (P6 _ f.o _).mono ?_;rintro e w' ⟨n1,(rfl|rfl|rfl),rfl,rfl⟩))
       all_goals exact ⟨⟨k+1,by omega,by go_num,Sl c n.o f.o⟩,by simp[intOf];omega⟩
      ·have f:=yb (ym.2 h);clear h
       go_wp2_with (first|(go_at_call 99;refine (Mw _ f.o _).mono ?_;rintro e w' ⟨n1,c2,c3,c5,rfl,rfl⟩))
       go_ret
       exact ⟨AJ (by rw[<-d.o,P5 c f.o]),rfl⟩
     ·go_wp2
      go_ret
      obtain rfl:k=s.size:=by omega
      exact ⟨AJ (by rw[<-d.o,QZ h0 b a.o n.o]),rfl⟩
   ·have a:=yb (ym.2 g);clear g
    go_enter Tryz.func80,Tryz.ntmps80
    go_wp2_with (first|(go_at_call 99;refine (K7 _ a.o _).mono ?_;rintro e w' ⟨n0,p,rfl,rfl⟩))
    go_ret
    exact ⟨AJ (by rw[<-d.o,Np h0 a.o]),rfl⟩
  ·go_enter Tryz.func80,Tryz.ntmps80
   go_wp2_with fail
   go_ret
   exact ⟨AJ (by rw[<-d.o,P4 h0 b]),rfl⟩
 ·have j:=Sn h0
  go_enter Tryz.func80,Tryz.ntmps80
  go_wp2_with fail
  go_ret
  exact ⟨AJ (by rw[<-d.o,Nn h0]),rfl⟩
end Go.Proofs.YtjofgpfocadomaaGreatDoor
namespace Go.Proofs.YtjofgpfocadomaaGreatDoor
open Go.RowKit
attribute [local go_sem] Oper.semAt_some
def JS(J:Nat->NP->World->Prop)(Jx:NP->World->Prop)(Jp:List PanicEntry->NP->World->Prop)(O:NP)(k:Nat)(W:World)(e:Ending)(W':World):Prop:=
 (e=.returned (.bool true)∧J k O W'∧AO O W W')∨(e=.returned (.bool false)∧Jx O W'∧AO O W W')∨∃a,e=.panicked a∧Jp a O W'∧AO O W W'
theorem CS{O:NP}{W W':World}(h:AO O W W'){b o:Nat}(hb:O b){v:Value}(a:W.cell? ⟨b,o,none⟩=some v):W'.cell? ⟨b,o,none⟩=some v:=by
 unfold World.cell? at a ⊢
 rw[h.2 b hb];exact a
theorem TS(n:Nat)(S:1<=n)(l Bc g:Nat)(lt:Int)(ps:LV)(k:Nat)(O:NP)(J:Nat->NP->World->Prop)(Jx:NP->World->Prop)(Jp:List PanicEntry->NP->World->Prop)(W:World)
 (B:O Bc)(z:O g)(r:ps.length<=100)(C:W.cell? ⟨Bc,0,none⟩=some (.func (.yield l) #[] #[]))(j:∀i (h:i < ps.length),W.cell? ⟨g,i,none⟩=some ps[i])(a:∀i (h:i < ps.length),∃p,ps[i]=.pointer (some p))
 (D:∀i (h:i < ps.length) W1,J (k+i) O W1->AO O W W1->YieldAt Fence.wide (n - 1) Tryz.prog l #[ps[i],.int .i64 lt] W1 (JS J Jx Jp O (k+i+1) W1))
 (h0:J k O W):
  CallsIn Fence.wide n Tryz.prog 93 #[.int .i64 lt,.slice (some ⟨g,0,none⟩) ps.length ps.length,.pointer (some ⟨Bc,0,none⟩)] W (JS J Jx Jp O (k+ps.length) W):=by
 have F:=yb C
 have v:=yb j
 have Q:=yb D
 have L:=yb h0
 have I:=yb B
 have q:=yb z
 have f:=yb a
 generalize hN:ps.length=N at r ⊢
 have K:=yb hN
 clear C j D h0 hN B z a
 refine callsIn_of_wp Tryz.func93 rfl trivial ?_ rfl
 simp only[Tryz.ntmps93,yM,yv,yE,Nat.reduceAdd,Nat.reduceSub,zx,zy,zM,zG,yP,yK]
 gi_wp2
 gi_loopw [10] (fun u wr=>∃i:Nat,i<=N∧u=iV i∧Hid (J (k+i) O wr)∧Hid (AO O W wr)) (fun u _=>N - (intOf u).toNat)
 case atStart=>exact ⟨0,yH _,rfl,L,yb (AO.refl _ _)⟩
 case round=>
  obtain ⟨i,hi,rfl,x,b⟩:=hrel
  by_cases s:i < N
  ·have c:i < ps.length:=by rw[K.o];exact s
   have c0:=CS b.o I.o F.o
   have c1:=CS b.o q.o (v.o i c)
   obtain ⟨p,m⟩:=f.o i c
   obtain ⟨fn,tmps,assign,body,M,y⟩:=Q.o i c wr x.o b.o
   rw[m] at c1 M
   have P:=yb y
   have G:(i:Int) < (N:Int):=by omega
   clear y m
   gi_wp2
   refine P.o.mono ?_
   rintro e R (⟨rfl,A,hs⟩|⟨rfl,E,hs⟩|⟨H,rfl,m,hs⟩)
   ·have t:=yb A
    have d:=yb (b.o.trans hs)
    clear A hs
    gi_wp2
    exact ⟨⟨i+1,by omega,by go_num,t,d⟩,by simp[intOf];omega⟩
   ·have w:=yb E
    have d:=yb (b.o.trans hs)
    clear E hs
    gi_wp2
    go_ret
    exact .inr (.inl ⟨rfl,w.o,d.o⟩)
   ·exact ⟨rfl,.inr (.inr ⟨H,rfl,m,b.o.trans hs⟩)⟩
  ·obtain rfl:i=N:=by omega
   gi_wp2
   go_ret
   exact .inl ⟨rfl,x.o,b.o⟩
end Go.Proofs.YtjofgpfocadomaaGreatDoor
namespace Go.Proofs.YtjofgpfocadomaaGreatDoor
open Go.RowKit
structure As where
 a:Option Addr
 n:Nat
 c:Nat
def As.v(h:As):Value:=.slice h.a h.n h.c
def As.at(h:As)(sz i c:Nat):Addr:=match h.a with
 |some ⟨b,o,_⟩=>⟨b,o+i*sz+c,none⟩
 |none=>⟨0,0,none⟩
def As.ptr(h:As)(sz i a:Nat):Value:=.pointer (some (h.at sz i a))
def As.ok(h:As):Prop:=h.n<=140737488355328∧(0 < h.n->∃b o,h.a=some ⟨b,o,none⟩)
theorem As.ok.get{h:As}(e:h.ok){i:Nat}(hi:i < h.n):∃b o,h.a=some ⟨b,o,none⟩∧∀sz i c,h.at sz i c=⟨b,o+i*sz+c,none⟩:=by
 obtain ⟨b,o,d⟩:=e.2 (by omega)
 exact ⟨b,o,d,fun sz i c=>by unfold As.at;rw[d]⟩
structure Bq where
 s:Nat
 lets:As
 crops:As
 reaches:As
 farms:As
 rots:As
 rights:As
 duties:As
 turns:List As
def one(p:Value)(lt:Int):List (Array Value):=[#[p,.int .i64 lt]]
def Al(ps:LV):List (Array Value):=ps.map fun p=>#[p,.int .i64 0]
def Af(s:Nat):LV:=[.pointer (some ⟨s,1,none⟩),.pointer (some ⟨s,7,none⟩),.pointer (some ⟨s,13,none⟩)]
def JT(h:As)(i:Nat):LV:=[h.ptr 51 i 3,h.ptr 51 i 9,h.ptr 51 i 15,h.ptr 51 i 21,h.ptr 51 i 27,h.ptr 51 i 33,h.ptr 51 i 39,h.ptr 51 i 45]
def E7(h:As)(i:Nat):LV:=[h.ptr 23 i 4,h.ptr 23 i 10,h.ptr 23 i 16]
def JU(h:As)(i:Nat):LV:=[h.ptr 37 i 7,h.ptr 37 i 13,h.ptr 37 i 19,h.ptr 37 i 25,h.ptr 37 i 31]
def A2(L:Bq)(i:Nat):As:=L.turns.getD i ⟨none,0,0⟩
def Am(L:Bq)(n:Nat):List (Array Value):=(List.range n).flatMap fun i=> [#[L.lets.ptr 7 i 1,.int .i64 (1+(i:Int))]]
def Ag(L:Bq)(n:Nat):List (Array Value):=(List.range n).flatMap fun i=>Al [L.crops.ptr 7 i 1]
def Aa(L:Bq)(n:Nat):List (Array Value):=(List.range n).flatMap fun i=>Al (JT L.reaches i)
def An(L:Bq)(n:Nat):List (Array Value):=(List.range n).flatMap fun i=>Al [L.farms.ptr 12 i 4]
def BB(h:As)(n:Nat):List (Array Value):=(List.range n).flatMap fun k=>Al [h.ptr 8 k 2]
def AV(L:Bq)(n:Nat):List (Array Value):=(List.range n).flatMap fun i=>Al (E7 L.rots i)++BB (A2 L i) (A2 L i).n
def AG(L:Bq)(n:Nat):List (Array Value):=(List.range n).flatMap fun i=>Al (JU L.rights i)
def Bh(L:Bq)(n:Nat):List (Array Value):=(List.range n).flatMap fun i=>Al [L.duties.ptr 11 i 5]
def BH(L:Bq):List (Array Value):=
 Al (Af L.s)++(Am L L.lets.n++(Ag L L.crops.n++(Aa L L.reaches.n++(An L L.farms.n++(AV L L.rots.n++(AG L L.rights.n++Bh L L.duties.n))))))
structure Ip (L:Bq) (Bs:Nat) (W:World):Prop where
 box:W.cell? ⟨Bs,0,none⟩=some (.pointer (some ⟨L.s,0,none⟩))
 lets:W.cell? ⟨L.s,19,none⟩=some L.lets.v
 crops:W.cell? ⟨L.s,20,none⟩=some L.crops.v
 reaches:W.cell? ⟨L.s,21,none⟩=some L.reaches.v
 farms:W.cell? ⟨L.s,22,none⟩=some L.farms.v
 rots:W.cell? ⟨L.s,23,none⟩=some L.rots.v
 rights:W.cell? ⟨L.s,24,none⟩=some L.rights.v
 duties:W.cell? ⟨L.s,25,none⟩=some L.duties.v
 turns:∀i,i < L.rots.n->W.cell? (L.rots.at 23 i 22)=some (A2 L i).v
structure Bq.Ok (L:Bq):Prop where
 lets:L.lets.ok
 crops:L.crops.ok
 reaches:L.reaches.ok
 farms:L.farms.ok
 rots:L.rots.ok
 rights:L.rights.ok
 duties:L.duties.ok
 turns:∀i,i < L.rots.n->(A2 L i).ok
theorem Br{α:Type}(f:Nat->List α){n i:Nat}(h:i < n):∃post,(List.range n).flatMap f=(List.range i).flatMap f++(f i++post):=by
 obtain ⟨m,rfl⟩:∃m,n=(i+1)+m:=⟨n - (i+1),by omega⟩
 rw[List.range_add,zH,List.range_succ,zH]
 exact ⟨_,by simp[yI];rfl⟩
theorem Ai{α:Type}(f:Nat->List α)(i:Nat):(List.range (i+1)).flatMap f=(List.range i).flatMap f++f i:=by
 rw[List.range_succ,zH];simp
structure VL (n l:Nat) (P:Program) (xs:List (Array Value)) (Hd:World->Prop) (J:Nat->(Nat->Prop)->World->Prop) (Jx:(Nat->Prop)->World->Prop) (Jp:List PanicEntry->(Nat->Prop)->World->Prop) (W0:World):Prop where
 stays:Ca J
 staysx:Ca (fun (_:Unit)=>Jx)
 hd:∀k O W,J k O W->Hd W
 hdx:∀O W,Jx O W->Hd W
 round:∀k (hk:k < xs.length) O W1,J k O W1->W0.heap.size<=W1.heap.size->(∀b,O b->W0.heap.size<=b∧b < W1.heap.size)->YieldAt Fence.wide n P l xs[k] W1 (JS J Jx Jp O (k+1) W1)
structure Hv (J:Nat->(Nat->Prop)->World->Prop) (W0:World) (l Bc k:Nat) (O:Nat->Prop) (wr:World):Prop where
 j:J k O wr
 bc:O Bc
 box:wr.cell? ⟨Bc,0,none⟩=some (.func (.yield l) #[] #[])
 size:W0.heap.size<=wr.heap.size
 own:∀b,O b->W0.heap.size<=b∧b < wr.heap.size
section
variable{n l Bc k:Nat}{P:Program}{xs:List (Array Value)}{Hd:World->Prop}{J:Nat->NP->World->Prop}{Jx:NP->World->Prop}{Jp:List PanicEntry->NP->World->Prop}{W0 wr w2:World}{O:NP}
theorem CC{β:Type}{J:β->NP->World->Prop}(h:Ca J){s:β}{O:NP}{W W':World}(d:J s O W)(hb:Below W.heap.size W W'):J s (fun b=>O b∨(W.heap.size<=b∧b < W'.heap.size)) W':=
 h s O W _ W' d hb.size hb.os hb.tape hb.output (fun b _ c=>hb.block b c) (fun _ a=>a.elim .inl (fun h=>.inr h.1))
theorem Hv.below(c:VL n l P xs Hd J Jx Jp W0)(h:Hv J W0 l Bc k O wr)(hb:Below wr.heap.size wr w2):Hv J W0 l Bc k (fun b=>O b∨(wr.heap.size<=b∧b < w2.heap.size)) w2:=
 ⟨CC c.stays h.j hb,.inl h.bc,(hb.cell (p:=⟨Bc,0,none⟩) (h.own _ h.bc).2).trans h.box,yt h.size hb.size,fun b a=>by
  rcases a with a|a
  ·have:=h.own b a;have:=hb.size;omega
  ·have:=h.size;omega⟩
def VQ(J:Nat->NP->World->Prop)(Jx:NP->World->Prop)(Jp:List PanicEntry->NP->World->Prop)(W0:World)(l Bc k:Nat)(e:Ending)(W':World):Prop:=
 (∃r:Bool,e=.returned (.bool r)∧((r=true∧∃a,Hv J W0 l Bc k a W')∨(r=false∧∃a,Jx a W')))∨∃b,e=.panicked b∧∃a,Jp b a W'
theorem Dc(r:VL (n - 1) l Tryz.prog xs Hd J Jx Jp W0)(x:1<=n){pre:List (Array Value)}(h:Hv J W0 l Bc pre.length O wr)(lt:Int)(a:Array Value)(N:Nat)(hN:a.size=N)(t:TypeId)(k:∃post,xs=pre++(a.toList.map (fun p=>#[p,.int .i64 lt])++post))(o:N<=100)(d:∀p∈a.toList,∃q,p=.pointer (some q))(g:Nat)(v:g=wr.heap.size):
  Calls Tryz.prog 93 #[.int .i64 lt,.slice (some ⟨g,0,none⟩) N N,.pointer (some ⟨Bc,0,none⟩)] (wr.alloc (.cells a t)) (VQ J Jx Jp W0 l Bc (pre.length+N)):=by
 subst hN v
 have hb:Below wr.heap.size wr (wr.alloc (.cells a t)):=(yg _ _).alloc (yf _) _
 have h2:=h.below r hb
 have c:a.toList.length=a.size:=by simp
 refine yX.1 ((TS n x l Bc wr.heap.size lt a.toList pre.length _ J Jx Jp _ h2.bc (.inr ⟨yf _,by simp⟩) (by rw[c];exact o) h2.box (fun i hi=>?_) (fun i hi=>d _ (yJ hi)) (fun i hi w f hs=>?_) h2.j).mono ?_)
 ·have:(wr.alloc (.cells a t)).heap[wr.heap.size]?=some (.cells a t (0,0)):=World.alloc_heap_new _ _
  simp only[World.cell?,this]
  simp[c▸hi]
 ·obtain ⟨post,k⟩:=k
  have z:pre.length+i < xs.length:=by rw[k];simp;simp at hi;omega
  have s:xs[pre.length+i]=#[a.toList[i],iV lt]:=by
   subst k
   rw[xx (by omega)]
   simp only[xi]
   rw[xy (by simpa using hi),zE]
  have:=r.round (pre.length+i) z _ w f (yt h2.size hs.1) (fun b hb=>by have:=h2.own b hb;have:=hs.1;omega)
  rw[s] at this
  exact this
 ·rintro e W' (⟨rfl,f,hs⟩|⟨rfl,m,hs⟩|⟨u,rfl,y,_⟩)
  ·rw[c] at f
   exact .inl ⟨true,rfl,.inl ⟨rfl,_,f,h2.bc,CS hs h2.bc h2.box,yt h2.size hs.1,fun b hb=>by have:=h2.own b hb;have:=hs.1;omega⟩⟩
  ·exact .inl ⟨false,rfl,.inr ⟨rfl,_,m⟩⟩
  ·exact .inr ⟨u,rfl,_,y⟩
end
structure Rf where
 name:ByteArray
 n:Int
structure Ga where
 name:ByteArray
 value:Ex
structure DD where
 name:ByteArray
 need:Ex
structure AD where
 name:ByteArray
 frm:Rf
 delay:Ex
 cap:Ex
 bank:Ex
 siphon:Ex
 evap0:Ex
 evap1:Ex
 seep0:Ex
 seep1:Ex
structure CV where
 name:ByteArray
 on:Rf
 river:Bool
 area:Ex
 crop:Rf
structure Cm where
 farm:Rf
 len:Ex
structure BA where
 name:ByteArray
 on:Rf
 rank:Int
 flow:Ex
 frm:Ex
 to:Ex
 turns:List Cm
structure B6 where
 kind:Int
 name:ByteArray
 farm:Rf
 reach:Rf
 rank:Int
 flow:Ex
 frm:Ex
 to:Ex
 every:Ex
 len:Ex
structure D6 where
 name:ByteArray
 farm:Rf
 reach:Rf
 due:Ex
structure Ax where
 name:ByteArray
 season:Ex
 cap:Ex
 start:Ex
 lets:List Ga
 crops:List DD
 reaches:List AD
 farms:List CV
 rots:List BA
 rights:List B6
 duties:List D6
def BF{α:Type}(N:NP)(w:World)(sz:Nat)(P:LV->α->Prop)(h:As)(l:List α):Prop:=
 h.n=l.length∧l.length<=140737488355328∧∀i (hi:i < l.length),∃b o cs,h.a=some ⟨b,o,none⟩∧N b∧cs.length=sz∧w.rangeAt b (o+i*sz) cs∧P cs l[i]
def AU(r:Rf):LV:=[.string r.name,.int .i64 r.n]
section
variable(N:NP)(w:World)
def K8(cs:LV)(d:Ga):Prop:=d.name.size<=maxLen∧∃c,cs=.string d.name::c∧AH N w d.value c
def Hw(cs:LV)(d:DD):Prop:=d.name.size<=maxLen∧∃c,cs=.string d.name::c∧AH N w d.need c
def EW(cs:LV)(d:AD):Prop:=d.name.size<=maxLen∧d.frm.name.size<=maxLen∧∃c0 c1 c2 c3 c4 c5 c6 c7,cs=.string d.name::(AU d.frm++(c0++(c1++(c2++(c3++(c4++(c5++(c6++c7))))))))∧
 AH N w d.delay c0∧AH N w d.cap c1∧AH N w d.bank c2∧AH N w d.siphon c3∧AH N w d.evap0 c4∧AH N w d.evap1 c5∧AH N w d.seep0 c6∧AH N w d.seep1 c7
def Hx(cs:LV)(d:CV):Prop:=d.name.size<=maxLen∧d.on.name.size<=maxLen∧d.crop.name.size<=maxLen∧∃c,cs=.string d.name::(AU d.on++(.bool d.river::(c++AU d.crop)))∧AH N w d.area c
def Fo(cs:LV)(d:Cm):Prop:=d.farm.name.size<=maxLen∧∃c,cs=AU d.farm++c∧AH N w d.len c
def GM(h:As)(cs:LV)(d:BA):Prop:=d.name.size<=maxLen∧d.on.name.size<=maxLen∧∃c0 c1 c2,cs=.string d.name::(AU d.on++(.int .i64 d.rank::(c0++(c1++(c2++[h.v])))))∧
 AH N w d.flow c0∧AH N w d.frm c1∧AH N w d.to c2∧BF N w 8 (Fo N w) h d.turns
def EX(cs:LV)(d:B6):Prop:=d.name.size<=maxLen∧d.farm.name.size<=maxLen∧d.reach.name.size<=maxLen∧∃c0 c1 c2 c3 c4,cs=.int .i64 d.kind::.string d.name::(AU d.farm++(AU d.reach++(.int .i64 d.rank::(c0++(c1++(c2++(c3++c4)))))))∧
 AH N w d.flow c0∧AH N w d.frm c1∧AH N w d.to c2∧AH N w d.every c3∧AH N w d.len c4
def Hy(cs:LV)(d:D6):Prop:=d.name.size<=maxLen∧d.farm.name.size<=maxLen∧d.reach.name.size<=maxLen∧∃c,cs=.string d.name::(AU d.farm++(AU d.reach++c))∧AH N w d.due c
structure BP (L:Bq) (cs:List Value) (x:Ax):Prop where
 name:x.name.size<=maxLen
 cells:∃c0 c1 c2,cs=.string x.name::(c0++(c1++(c2++[L.lets.v,L.crops.v,L.reaches.v,L.farms.v,L.rots.v,L.rights.v,L.duties.v])))∧AH N w x.season c0∧AH N w x.cap c1∧AH N w x.start c2
 lets:BF N w 7 (K8 N w) L.lets x.lets
 crops:BF N w 7 (Hw N w) L.crops x.crops
 reaches:BF N w 51 (EW N w) L.reaches x.reaches
 farms:BF N w 12 (Hx N w) L.farms x.farms
 rots:L.rots.n=x.rots.length∧x.rots.length<=140737488355328∧∀i (hi:i < x.rots.length),∃b o cs,L.rots.a=some ⟨b,o,none⟩∧N b∧cs.length=23∧w.rangeAt b (o+i*23) cs∧GM N w (A2 L i) cs x.rots[i]
 rights:BF N w 37 (EX N w) L.rights x.rights
 duties:BF N w 11 (Hy N w) L.duties x.duties
end
section
variable{N N':NP}{w w':World}
theorem BF.same{α:Type}{sz:Nat}{P c:LV->α->Prop}{h:As}{l:List α}(g:∀b,N b->N' b)(hb:∀b,N b->w'.heap[b]?=w.heap[b]?)(k:∀cs d,P cs d->c cs d)(hr:BF N w sz P h l):BF N' w' sz c h l:=by
 obtain ⟨h1,h2,h3⟩:=hr
 refine ⟨h1,h2,fun i hi=>?_⟩
 obtain ⟨b,o,cs,g1,a,j,f,e⟩:=h3 i hi
 exact ⟨b,o,cs,g1,g b a,j,A0 f (hb b a),k _ _ e⟩
theorem BF.ok{α:Type}{sz:Nat}{P:LV->α->Prop}{h:As}{l:List α}(hr:BF N w sz P h l):h.ok:=by
 obtain ⟨h1,h2,h3⟩:=hr
 refine ⟨by omega,fun a=>?_⟩
 obtain ⟨b,o,_,g1,_⟩:=h3 0 (by omega)
 exact ⟨b,o,g1⟩
theorem K8.same(a:∀b,N b->N' b)(hb:∀b,N b->w'.heap[b]?=w.heap[b]?){cs:LV}{d:Ga}(h:K8 N w cs d):K8 N' w' cs d:=by
 obtain ⟨h1,c,h2,h3⟩:=h
 exact ⟨h1,c,h2,h3.same a hb⟩
theorem Hw.same(a:∀b,N b->N' b)(hb:∀b,N b->w'.heap[b]?=w.heap[b]?){cs:LV}{d:DD}(h:Hw N w cs d):Hw N' w' cs d:=by
 obtain ⟨h1,c,h2,h3⟩:=h
 exact ⟨h1,c,h2,h3.same a hb⟩
theorem EW.same(a:∀b,N b->N' b)(hb:∀b,N b->w'.heap[b]?=w.heap[b]?){cs:LV}{d:AD}(h:EW N w cs d):EW N' w' cs d:=by
 obtain ⟨h1,h2,c0,c1,c2,c3,c4,c5,c6,c7,h3,j,g1,c,k,i,g,e,f⟩:=h
 exact ⟨h1,h2,c0,c1,c2,c3,c4,c5,c6,c7,h3,j.same a hb,g1.same a hb,c.same a hb,k.same a hb,i.same a hb,g.same a hb,e.same a hb,f.same a hb⟩
theorem Hx.same(a:∀b,N b->N' b)(hb:∀b,N b->w'.heap[b]?=w.heap[b]?){cs:LV}{d:CV}(h:Hx N w cs d):Hx N' w' cs d:=by
 obtain ⟨h1,h2,h3,c,e,g⟩:=h
 exact ⟨h1,h2,h3,c,e,g.same a hb⟩
theorem Fo.same(a:∀b,N b->N' b)(hb:∀b,N b->w'.heap[b]?=w.heap[b]?){cs:LV}{d:Cm}(h:Fo N w cs d):Fo N' w' cs d:=by
 obtain ⟨h1,c,h2,g⟩:=h
 exact ⟨h1,c,h2,g.same a hb⟩
theorem GM.same(a:∀b,N b->N' b)(hb:∀b,N b->w'.heap[b]?=w.heap[b]?){t:As}{cs:LV}{d:BA}(h:GM N w t cs d):GM N' w' t cs d:=by
 obtain ⟨h1,h2,c0,c1,c2,h3,e,g1,c,f⟩:=h
 exact ⟨h1,h2,c0,c1,c2,h3,e.same a hb,g1.same a hb,c.same a hb,f.same a hb (fun _ _ h=>h.same a hb)⟩
theorem EX.same(a:∀b,N b->N' b)(hb:∀b,N b->w'.heap[b]?=w.heap[b]?){cs:LV}{d:B6}(h:EX N w cs d):EX N' w' cs d:=by
 obtain ⟨h1,h2,h3,c0,c1,c2,c3,c4,f,g,g1,c,i,e⟩:=h
 exact ⟨h1,h2,h3,c0,c1,c2,c3,c4,f,g.same a hb,g1.same a hb,c.same a hb,i.same a hb,e.same a hb⟩
theorem Hy.same(a:∀b,N b->N' b)(hb:∀b,N b->w'.heap[b]?=w.heap[b]?){cs:LV}{d:D6}(h:Hy N w cs d):Hy N' w' cs d:=by
 obtain ⟨h1,h2,h3,c,e,g⟩:=h
 exact ⟨h1,h2,h3,c,e,g.same a hb⟩
theorem BP.same(a:∀b,N b->N' b)(hb:∀b,N b->w'.heap[b]?=w.heap[b]?){L:Bq}{cs:LV}{x:Ax}(h:BP N w L cs x):BP N' w' L cs x:=by
 refine ⟨h.name,?_,h.lets.same a hb (fun _ _ h=>h.same a hb),h.crops.same a hb (fun _ _ h=>h.same a hb),h.reaches.same a hb (fun _ _ h=>h.same a hb),h.farms.same a hb (fun _ _ h=>h.same a hb),?_,h.rights.same a hb (fun _ _ h=>h.same a hb),h.duties.same a hb (fun _ _ h=>h.same a hb)⟩
 ·obtain ⟨c0,c1,c2,h1,f,g1,c⟩:=h.cells
  exact ⟨c0,c1,c2,h1,f.same a hb,g1.same a hb,c.same a hb⟩
 ·obtain ⟨h1,h2,h3⟩:=h.rots
  refine ⟨h1,h2,fun i hi=>?_⟩
  obtain ⟨b,o,cs,g1,c,g,e,d⟩:=h3 i hi
  exact ⟨b,o,cs,g1,a b c,g,A0 e (hb b c),d.same a hb⟩
theorem BP.ok{L:Bq}{cs:LV}{x:Ax}(h:BP N w L cs x):L.Ok:=by
 obtain ⟨h1,h2,h3⟩:=h.rots
 refine ⟨h.lets.ok,h.crops.ok,h.reaches.ok,h.farms.ok,⟨by omega,fun a=>?_⟩,h.rights.ok,h.duties.ok,fun i hi=>?_⟩
 ·obtain ⟨b,o,_,g1,_⟩:=h3 0 (by omega)
  exact ⟨b,o,g1⟩
 ·obtain ⟨_,_,_,_,_,_,_,g⟩:=h3 i (by omega)
  obtain ⟨_,_,_,_,_,_,_,_,_,g⟩:=g
  exact g.ok
end
def Az{α β:Type}(R:α->β->Prop):List α->List β->Prop
 |[],[]=>True
 |a::l,b::m=>R a b∧Az R l m
 |_,_=>False
section
variable{α β:Type}{R:α->β->Prop}
theorem Az.append:∀ {l:List α} {m:List β} {l':List α} {a:List β},Az R l m->Az R l' a->Az R (l++l') (m++a)
 |[],[],_,_,_,h=>h
 |_::_,_::_,_,_,h,h'=>⟨h.1,h.2.append h'⟩
 |[],_::_,_,_,h,_=>h.elim
 |_::_,[],_,_,h,_=>h.elim
theorem Az.length:∀ {l:List α} {m:List β},Az R l m->l.length=m.length
 |[],[],_=>rfl
 |_::_,_::_,h=>by simp[h.2.length]
 |[],_::_,h=>h.elim
 |_::_,[],h=>h.elim
theorem Az.get:∀ {l:List α} {m:List β},Az R l m->∀i (h:i < l.length) (a:i < m.length),R l[i] m[i]
 |[],_,_,i,h,_=>by simp at h
 |_::_,_::_,h,0,_,_=>h.1
 |_::_,_::_,h,i+1,h1,h2=>h.2.get i (by simpa using h1) (by simpa using h2)
 |_::_,[],h,_,_,_=>h.elim
theorem Az.mono{R':α->β->Prop}(hr:∀a b,R a b->R' a b):∀ {l:List α} {m:List β},Az R l m->Az R' l m
 |[],[],h=>h
 |_::_,_::_,h=>⟨hr _ _ h.1,h.2.mono hr⟩
 |[],_::_,h=>h.elim
 |_::_,[],h=>h.elim
theorem LS{γ:Type}(f:Nat->List α)(g:Nat->γ->List β):∀(l:List γ) (k:Nat),(∀i (h:i < l.length),Az R (f (k+i)) (g (k+i) l[i]))->Az R ((List.range' k l.length).flatMap f) ((l.zipIdx k).flatMap fun p=>g p.2 p.1)
 |[],_,_=>by simp[Az]
 |x::r,k,h=>by
  rw[yv,List.range'_succ,zc,xM,zc]
  refine (h 0 (by simp)).append (LS f g r (k+1) fun i hi=>?_)
  have:=h (i+1) (by simpa using hi)
  rw[show k+1+i=k+(i+1) by omega]
  simpa using this
theorem AY{γ:Type}(f:Nat->List α)(g:Nat->γ->List β)(l:List γ)(n:Nat)(a:n=l.length)(h:∀i (h:i < l.length),Az R (f i) (g i l[i])):Az R ((List.range n).flatMap f) (l.zipIdx.flatMap fun p=>g p.2 p.1):=by
 subst a
 rw[List.range_eq_range']
 exact LS f g l 0 (fun i hi=>by rw[yw];exact h i hi)
end
abbrev Lp:=Ex × Int
def Kd(l:List Ga):List Lp:=l.zipIdx.flatMap fun p=> [(p.1.value,1+(p.2:Int))]
def Ia(l:List DD):List Lp:=l.zipIdx.flatMap fun p=> [(p.1.need,0)]
def F0(l:List AD):List Lp:=l.zipIdx.flatMap fun p=> [(p.1.delay,0),(p.1.cap,0),(p.1.bank,0),(p.1.siphon,0),(p.1.evap0,0),(p.1.evap1,0),(p.1.seep0,0),(p.1.seep1,0)]
def Ib(l:List CV):List Lp:=l.zipIdx.flatMap fun p=> [(p.1.area,0)]
def Ec(l:List Cm):List Lp:=l.zipIdx.flatMap fun p=> [(p.1.len,0)]
def Jm(l:List BA):List Lp:=l.zipIdx.flatMap fun p=> [(p.1.flow,0),(p.1.frm,0),(p.1.to,0)]++Ec p.1.turns
def Gc(l:List B6):List Lp:=l.zipIdx.flatMap fun p=> [(p.1.flow,0),(p.1.frm,0),(p.1.to,0),(p.1.every,0),(p.1.len,0)]
def Gd(l:List D6):List Lp:=l.zipIdx.flatMap fun p=> [(p.1.due,0)]
def Ay(x:Ax):List Lp:=
 [(x.season,0),(x.cap,0),(x.start,0)]++(Kd x.lets++(Ia x.crops++(F0 x.reaches++(Ib x.farms++(Jm x.rots++(Gc x.rights++Gd x.duties))))))
def VR(N:NP)(s:Nat)(w:World)(a:Array Value)(e:Lp):Prop:=
 ∃b o cs,a=#[.pointer (some ⟨b,o,none⟩),.int .i64 e.2]∧(b=s∨N b)∧w.rangeAt b o cs∧AH N w e.1 cs
theorem CT{w:World}{b o:Nat}{p c q:LV}(h:w.rangeAt b o (p++(c++q))):w.rangeAt b (o+p.length) c:=fun j v a=>by
 have d:=(yx.1 a).1
 have:=h (p.length+j) v (by rw[yV (by omega),xi,zo d];exact a)
 rw[show o+p.length+j=o+(p.length+j) by omega];exact this
theorem AH.len{N:NP}{w:World}{e:Ex}{c:LV}(h:AH N w e c):c.length=6:=by
 obtain ⟨a,cap,rfl,_⟩:=h.cells;rfl
theorem Cu{N:NP}{s:Nat}{w:World}{h:As}{b o sz i a:Nat}{p c q:LV}{e:Ex}(lt:Int)(d:∀sz i a,h.at sz i a=⟨b,o+i*sz+a,none⟩)(hb:b=s∨N b){cs:LV}(hr:w.rangeAt b (o+i*sz) cs)(g:cs=p++(c++q))(j:p.length=a)(f:AH N w e c):
  VR N s w #[h.ptr sz i a,.int .i64 lt] (e,lt):=by
 subst g
 refine ⟨b,o+i*sz+a,c,?_,hb,?_,f⟩
 ·unfold As.ptr;rw[d]
 ·have:=CT hr
  rw[j] at this;exact this
theorem AP{h:As}{b o:Nat}(d:h.a=some ⟨b,o,none⟩):∀sz i c,h.at sz i c=⟨b,o+i*sz+c,none⟩:=fun sz i c=>by unfold As.at;rw[d]
theorem At(r:Rf):(AU r).length=2:=rfl
section
variable{N:NP}{w:World}{L:Bq}{cs:LV}{x:Ax}
theorem Ic(h:BP N w L cs x)(hr:w.rangeAt L.s 0 cs):Az (VR N L.s w) (BH L) (Ay x):=by
 refine Az.append ?_ (Az.append ?_ (Az.append ?_ (Az.append ?_ (Az.append ?_ (Az.append ?_ (Az.append ?_ ?_))))))
 ·obtain ⟨c0,c1,c2,rfl,C,g1,a⟩:=h.cells
  have f:=C.len
  have g:=g1.len
  refine ⟨⟨L.s,1,c0,rfl,.inl rfl,?_,C⟩,⟨L.s,7,c1,rfl,.inl rfl,?_,g1⟩,⟨L.s,13,c2,rfl,.inl rfl,?_,a⟩,trivial⟩
  ·exact CT (p:=[.string x.name]) (o:=0) hr
  ·have:=CT (p:=.string x.name::c0) (c:=c1) (q:=c2++[L.lets.v,L.crops.v,L.reaches.v,L.farms.v,L.rots.v,L.rights.v,L.duties.v]) (o:=0) (b:=L.s) (w:=w) (by simpa using hr)
   simpa[f] using this
  ·have:=CT (p:=.string x.name::(c0++c1)) (c:=c2) (q:=[L.lets.v,L.crops.v,L.reaches.v,L.farms.v,L.rots.v,L.rights.v,L.duties.v]) (o:=0) (b:=L.s) (w:=w) (by simpa using hr)
   simpa[f,g] using this
 ·obtain ⟨h1,h2,h3⟩:=h.lets
  refine AY _ (fun i (d:Ga)=> [(d.value,1+(i:Int))]) x.lets _ h1 fun i hi=>?_
  obtain ⟨b,o,cs,g1,a,t,e,_,c,rfl,j⟩:=h3 i hi
  exact ⟨Cu (p:=[.string (x.lets[i]).name]) (q:=[]) _ (AP g1) (.inr a) e (by simp) rfl j,trivial⟩
 ·obtain ⟨h1,h2,h3⟩:=h.crops
  refine AY _ (fun i (d:DD)=> [(d.need,0)]) x.crops _ h1 fun i hi=>?_
  obtain ⟨b,o,cs,g1,a,t,e,_,c,rfl,j⟩:=h3 i hi
  exact ⟨Cu (p:=[.string (x.crops[i]).name]) (q:=[]) _ (AP g1) (.inr a) e (by simp) rfl j,trivial⟩
 ·obtain ⟨h1,h2,h3⟩:=h.reaches
  refine AY _ (fun i (d:AD)=> [(d.delay,0),(d.cap,0),(d.bank,0),(d.siphon,0),(d.evap0,0),(d.evap1,0),(d.seep0,0),(d.seep1,0)]) x.reaches _ h1 fun i hi=>?_
  obtain ⟨b,o,cs,g1,a,t,e,_,_,c0,c1,c2,c3,c4,c5,c6,c7,rfl,n,m,r,y,z,B,D,H⟩:=h3 i hi
  generalize x.reaches[i]=d at*
  have f:=n.len;have g:=m.len;have l:=r.len;have u:=y.len;have A:=z.len;have E:=B.len;have G:=D.len
  refine ⟨?_,?_,?_,?_,?_,?_,?_,?_,trivial⟩
  ·exact Cu (p:=.string d.name::AU d.frm) _ (AP g1) (.inr a) e (by simp;rfl) rfl n
  ·exact Cu (p:=.string d.name::(AU d.frm++c0)) _ (AP g1) (.inr a) e (by simp;rfl) (by simp[At,f]) m
  ·exact Cu (p:=.string d.name::(AU d.frm++(c0++c1))) _ (AP g1) (.inr a) e (by simp;rfl) (by simp[At,f,g]) r
  ·exact Cu (p:=.string d.name::(AU d.frm++(c0++(c1++c2)))) _ (AP g1) (.inr a) e (by simp;rfl) (by simp[At,f,g,l]) y
  ·exact Cu (p:=.string d.name::(AU d.frm++(c0++(c1++(c2++c3))))) _ (AP g1) (.inr a) e (by simp;rfl) (by simp[At,f,g,l,u]) z
  ·exact Cu (p:=.string d.name::(AU d.frm++(c0++(c1++(c2++(c3++c4)))))) _ (AP g1) (.inr a) e (by simp;rfl) (by simp[At,f,g,l,u,A]) B
  ·exact Cu (p:=.string d.name::(AU d.frm++(c0++(c1++(c2++(c3++(c4++c5))))))) _ (AP g1) (.inr a) e (by simp;rfl) (by simp[At,f,g,l,u,A,E]) D
  ·exact Cu (p:=.string d.name::(AU d.frm++(c0++(c1++(c2++(c3++(c4++(c5++c6)))))))) (q:=[]) _ (AP g1) (.inr a) e (by simp) (by simp[At,f,g,l,u,A,E,G]) H
 ·obtain ⟨h1,h2,h3⟩:=h.farms
  refine AY _ (fun i (d:CV)=> [(d.area,0)]) x.farms _ h1 fun i hi=>?_
  obtain ⟨b,o,cs,g1,a,t,e,_,_,_,c,rfl,j⟩:=h3 i hi
  generalize x.farms[i]=d at*
  exact ⟨Cu (p:=.string d.name::(AU d.on++[.bool d.river])) _ (AP g1) (.inr a) e (by simp;rfl) rfl j,trivial⟩
 ·obtain ⟨h1,h2,h3⟩:=h.rots
  refine AY _ (fun i (d:BA)=> [(d.flow,0),(d.frm,0),(d.to,0)]++Ec d.turns) x.rots _ h1 fun i hi=>?_
  obtain ⟨b,o,cs,g1,a,t,e,_,_,c0,c1,c2,rfl,n,m,r,F⟩:=h3 i hi
  generalize x.rots[i]=d at*
  have f:=n.len;have g:=m.len
  refine Az.append ⟨?_,?_,?_,trivial⟩ ?_
  ·exact Cu (p:=.string d.name::(AU d.on++[iV d.rank])) _ (AP g1) (.inr a) e (by simp;rfl) rfl n
  ·exact Cu (p:=.string d.name::(AU d.on++(iV d.rank::c0))) _ (AP g1) (.inr a) e (by simp;rfl) (by simp[At,f]) m
  ·exact Cu (p:=.string d.name::(AU d.on++(iV d.rank::(c0++c1)))) _ (AP g1) (.inr a) e (by simp;rfl) (by simp[At,f,g]) r
  ·obtain ⟨h1,h2,h3⟩:=F
   refine AY _ (fun k (d:Cm)=> [(d.len,0)]) d.turns _ h1 fun k I=>?_
   obtain ⟨b,o,cs,g1,a,t,e,_,c,rfl,j⟩:=h3 k I
   exact ⟨Cu (p:=AU (d.turns[k]).farm) (q:=[]) _ (AP g1) (.inr a) e (by simp) rfl j,trivial⟩
 ·obtain ⟨h1,h2,h3⟩:=h.rights
  refine AY _ (fun i (d:B6)=> [(d.flow,0),(d.frm,0),(d.to,0),(d.every,0),(d.len,0)]) x.rights _ h1 fun i hi=>?_
  obtain ⟨b,o,cs,g1,a,t,e,_,_,_,c0,c1,c2,c3,c4,rfl,n,m,r,y,z⟩:=h3 i hi
  generalize x.rights[i]=d at*
  have f:=n.len;have g:=m.len;have l:=r.len;have u:=y.len
  refine ⟨?_,?_,?_,?_,?_,trivial⟩
  ·exact Cu (p:=iV d.kind::.string d.name::(AU d.farm++(AU d.reach++[iV d.rank]))) _ (AP g1) (.inr a) e (by simp;rfl) rfl n
  ·exact Cu (p:=iV d.kind::.string d.name::(AU d.farm++(AU d.reach++(iV d.rank::c0)))) _ (AP g1) (.inr a) e (by simp;rfl) (by simp[At,f]) m
  ·exact Cu (p:=iV d.kind::.string d.name::(AU d.farm++(AU d.reach++(iV d.rank::(c0++c1))))) _ (AP g1) (.inr a) e (by simp;rfl) (by simp[At,f,g]) r
  ·exact Cu (p:=iV d.kind::.string d.name::(AU d.farm++(AU d.reach++(iV d.rank::(c0++(c1++c2)))))) _ (AP g1) (.inr a) e (by simp;rfl) (by simp[At,f,g,l]) y
  ·exact Cu (p:=iV d.kind::.string d.name::(AU d.farm++(AU d.reach++(iV d.rank::(c0++(c1++(c2++c3))))))) (q:=[]) _ (AP g1) (.inr a) e (by simp) (by simp[At,f,g,l,u]) z
 ·obtain ⟨h1,h2,h3⟩:=h.duties
  refine AY _ (fun i (d:D6)=> [(d.due,0)]) x.duties _ h1 fun i hi=>?_
  obtain ⟨b,o,cs,g1,a,t,e,_,_,_,c,rfl,j⟩:=h3 i hi
  generalize x.duties[i]=d at*
  exact ⟨Cu (p:=.string d.name::(AU d.farm++AU d.reach)) (q:=[]) _ (AP g1) (.inr a) e (by simp) rfl j,trivial⟩
theorem Ke(h:BP N w L cs x)(hr:w.rangeAt L.s 0 cs){Bs:Nat}(d:w.cell? ⟨Bs,0,none⟩=some (.pointer (some ⟨L.s,0,none⟩))):Ip L Bs w:=by
 obtain ⟨c0,c1,c2,rfl,t,g1,k⟩:=h.cells
 have y:=t.len;have z:=g1.len;have r:=k.len
 have a:=CT (p:=.string x.name::(c0++(c1++c2))) (c:=[L.lets.v,L.crops.v,L.reaches.v,L.farms.v,L.rots.v,L.rights.v,L.duties.v]) (q:=[]) (o:=0) (b:=L.s) (w:=w) (by simpa using hr)
 have e:(Value.string x.name::(c0++(c1++c2))).length=19:=by simp[y,z,r]
 rw[e] at a
 refine ⟨d,a 0 _ rfl,a 1 _ rfl,a 2 _ rfl,a 3 _ rfl,a 4 _ rfl,a 5 _ rfl,a 6 _ rfl,fun i hi=>?_⟩
 obtain ⟨h1,h2,h3⟩:=h.rots
 obtain ⟨b,o,cs,u,B,C,n,_,_,j,g,f,rfl,l,A,m,_⟩:=h3 i (by omega)
 rw[AP u]
 have:=CT (p:=.string (x.rots[i]'(by omega)).name::(AU (x.rots[i]'(by omega)).on++(iV (x.rots[i]'(by omega)).rank::(j++(g++f))))) (c:=[(A2 L i).v]) (q:=[]) (o:=o+i*23) (b:=b) (w:=w) (by simpa using n)
 have e:(Value.string (x.rots[i]'(by omega)).name::(AU (x.rots[i]'(by omega)).on++(iV (x.rots[i]'(by omega)).rank::(j++(g++f))))).length=22:=by simp[At,l.len,A.len,m.len]
 rw[e] at this
 exact this 0 _ rfl
end
structure Us where
 b:Nat
 o:Nat
 to:Int
 at_:Int
 name:ByteArray
 n:Int
def Us.v(u:Us):Array Value:=#[.agg #[.pointer (some ⟨u.b,u.o,none⟩),.int .i64 u.to,.int .i64 u.at_]]
def Nc(op:Int)(len:Nat):Bool:=decide (1<=op)&&(decide (op<=6)&&(if 3<=op then decide (len=2) else decide (len=0)))
def Lq(op lt:Int):Int:=if op=2 then (if 0 < lt then 2 else 1) else 0
def OX(op lt:Int):Int:=if op=2 then (if 0 < lt then lt - 1 else 0) else 0
mutual
def BX(w:World)(lt:Int):Ex->Nat->Nat->List Us × Bool
 |.mk op _ _ rn ri args,b,o=>if Nc op args.length then (⟨b,o+3,Lq op lt,OX op lt,rn,ri⟩::(Bp w lt args (w.cell? ⟨b,o+5,none⟩) 0).1,(Bp w lt args (w.cell? ⟨b,o+5,none⟩) 0).2) else ([],false)
def Bp(w:World)(lt:Int):List Ex->Option Value->Nat->List Us × Bool
 |[],_,_=>([],true)
 |e::r,v,i=>match v with
  |some (.slice (some ⟨b,o,none⟩) _ _)=>if (BX w lt e b (o+i*6)).2 then ((BX w lt e b (o+i*6)).1++(Bp w lt r v (i+1)).1,(Bp w lt r v (i+1)).2) else ((BX w lt e b (o+i*6)).1,false)
  |_=>([],false)
end
theorem LU{w:World}{lt:Int}{b o n c:Nat}{e:Ex}:∀(l:List Ex) (i:Nat),Bp w lt (l++[e]) (some (.slice (some ⟨b,o,none⟩) n c)) i=
  if (Bp w lt l (some (.slice (some ⟨b,o,none⟩) n c)) i).2 then ((Bp w lt l (some (.slice (some ⟨b,o,none⟩) n c)) i).1++(BX w lt e b (o+(i+l.length)*6)).1,(BX w lt e b (o+(i+l.length)*6)).2) else Bp w lt l (some (.slice (some ⟨b,o,none⟩) n c)) i
 |[],i=>by
  simp only[yP,Bp,yE,qj,xm]
  split
  ·rename_i h;simp[h]
  ·rename_i h;simp[h]
 |x::r,i=>by
  simp only[yK,Bp,LU r (i+1),yv]
  rw[show i+(r.length+1)=i+1+r.length by omega]
  by_cases h1:(BX w lt x b (o+i*6)).2=true
  ·simp only[h1,xm]
   by_cases h2:(Bp w lt r (some (.slice (some ⟨b,o,none⟩) n c)) (i+1)).2=true
   ·simp[h2]
   ·simp[h2]
  ·simp[h1]
theorem LW{w:World}{lt:Int}{b o n c:Nat}:∀(l m:List Ex) (i:Nat),(Bp w lt l (some (.slice (some ⟨b,o,none⟩) n c)) i).2=false->Bp w lt (l++m) (some (.slice (some ⟨b,o,none⟩) n c)) i=Bp w lt l (some (.slice (some ⟨b,o,none⟩) n c)) i
 |[],m,i,h=>by simp[Bp] at h
 |x::r,m,i,h=>by
  simp only[Bp,yK] at h ⊢
  by_cases h1:(BX w lt x b (o+i*6)).2=true
  ·simp only[h1,xm] at h ⊢
   rw[LW r m (i+1) h]
  ·simp[h1]
theorem Nr{w:World}{lt:Int}{b o n c:Nat}:∀(l m:List Ex) (i:Nat),∃post,(Bp w lt (l++m) (some (.slice (some ⟨b,o,none⟩) n c)) i).1=(Bp w lt l (some (.slice (some ⟨b,o,none⟩) n c)) i).1++post
 |[],m,i=>⟨_,rfl⟩
 |x::r,m,i=>by
  simp only[Bp,yK]
  by_cases h1:(BX w lt x b (o+i*6)).2=true
  ·simp only[h1,xm]
   obtain ⟨post,a⟩:=Nr r m (i+1)
   exact ⟨post,by rw[a];simp⟩
  ·simp only[h1]
   exact ⟨[],by simp⟩
mutual
def R5(w:World)(C:Addr->Prop):Ex->Nat->Nat->Prop
 |.mk op _ _ _ _ args,b,o=>∃a cap,(w.cell? ⟨b,o,none⟩=some (.int .i64 op)∧C ⟨b,o,none⟩)∧(w.cell? ⟨b,o+5,none⟩=some (.slice a args.length cap)∧C ⟨b,o+5,none⟩)∧args.length<=140737488355328∧JD w C a 0 args
def JD(w:World)(C:Addr->Prop)(a:Option Addr):Nat->List Ex->Prop
 |_,[]=>True
 |i,e::r=>(∃b o,a=some ⟨b,o,none⟩∧R5 w C e b (o+i*6))∧JD w C a (i+1) r
end
theorem Ns{w:World}{C:Addr->Prop}{a:Option Addr}:∀ {l:List Ex} {k:Nat},JD w C a k l->∀i (h:i < l.length),∃b o,a=some ⟨b,o,none⟩∧R5 w C l[i] b (o+(k+i)*6)
 |[],_,_,i,h=>by simp at h
 |e::r,k,hr,i,h=>by
  rw[JD] at hr
  cases i with
  |zero=>exact hr.1
  |succ i=>
   obtain ⟨b,o,h1,h2⟩:=Ns hr.2 i (by simpa using h)
   exact ⟨b,o,h1,by rw[show k+(i+1)=k+1+i by omega];simpa using h2⟩
theorem R6{w:World}{lt:Int}{b o n c:Nat}{l:List Ex}{i:Nat}(h:i < l.length)(a:(Bp w lt (l.take i) (some (.slice (some ⟨b,o,none⟩) n c)) 0).2=true):
  Bp w lt (l.take (i+1)) (some (.slice (some ⟨b,o,none⟩) n c)) 0=((Bp w lt (l.take i) (some (.slice (some ⟨b,o,none⟩) n c)) 0).1++(BX w lt l[i] b (o+i*6)).1,(BX w lt l[i] b (o+i*6)).2):=by
 have d:(l.take i).length=i:=by rw[zb];omega
 rw[yG h,LU,a,yD rfl,d,yw]
structure IV (J:Nat->(Nat->Prop)->World->Prop) (O:Nat->Prop) (B0 l By Bi k:Nat) (W:World):Prop where
 j:J k O W
 size:B0<=W.heap.size
 own:∀b,O b->b < W.heap.size
 y:O By∧W.cell? ⟨By,0,none⟩=some (.func (.yield l) #[] #[])
 i:O Bi∧W.cell? ⟨Bi,0,none⟩=some (.func (.func 71) #[] #[.pointer (some ⟨By,0,none⟩),.pointer (some ⟨Bi,0,none⟩)])
section
variable{J:Nat->NP->World->Prop}{Jx:NP->World->Prop}{Jp:List PanicEntry->NP->World->Prop}{O:NP}{B0 l By Bi k k':Nat}{W W':World}
theorem IV.below(d:Ca J)(h:IV J O B0 l By Bi k W)(hb:Below W.heap.size W W'):IV J O B0 l By Bi k W':=
 ⟨d k O W O W' h.j hb.size hb.os hb.tape hb.output (fun b _ c=>hb.block b c) (fun _=>.inl),yt h.size hb.size,fun b a=>yu (h.own b a) hb.size,
  ⟨h.y.1,(hb.cell (p:=⟨By,0,none⟩) (h.own _ h.y.1)).trans h.y.2⟩,⟨h.i.1,(hb.cell (p:=⟨Bi,0,none⟩) (h.own _ h.i.1)).trans h.i.2⟩⟩
theorem IV.same(h:IV J O B0 l By Bi k W)(c:J k' O W')(hs:AO O W W'):IV J O B0 l By Bi k' W':=
 ⟨c,yt h.size hs.1,fun b a=>yu (h.own b a) hs.1,⟨h.y.1,CS hs h.y.1 h.y.2⟩,⟨h.i.1,CS hs h.i.1 h.i.2⟩⟩
theorem IV.sameBelow(h:IV J O B0 l By Bi k W)(hb:Below W.heap.size W W'):AO O W W':=⟨hb.size,fun b a=>hb.block b (h.own b a)⟩
def Nt(J:Nat->NP->World->Prop)(Jx:NP->World->Prop)(Jp:List PanicEntry->NP->World->Prop)(O:NP)(k:Nat)(ok:Bool)(W:World)(e:Ending)(W':World):Prop:=
 (∃r:Bool,e=.returned (.bool r)∧AO O W W'∧((r=true∧ok=true∧J k O W')∨(r=false∧Jx O W')))∨∃a,e=.panicked a∧Jp a O W'∧AO O W W'
theorem Nt.from(hs:AO O W W'){e:Ending}{a:World}{ok:Bool}(h:Nt J Jx Jp O k ok W' e a):Nt J Jx Jp O k ok W e a:=by
 rcases h with ⟨r,h1,h2,h3⟩|h
 ·exact .inl ⟨r,h1,hs.trans h2,h3⟩
 ·obtain ⟨b,h1,h2,h3⟩:=h
  exact .inr ⟨b,h1,h2,hs.trans h3⟩
end
end Go.Proofs.YtjofgpfocadomaaGreatDoor
namespace Go.Proofs.YtjofgpfocadomaaGreatDoor
open Go.RowKit Go.Maps Go.ChangeMaps Go.WideMaps Go.MapKept
open Go.WideElems (Fit rd rg pl rd_val elemAt)
theorem Nx:Keyed Tryz.prog 9:=string_keyed j1
theorem UB(w:World):(zeroValue 3).run Tryz.prog w=.ok (.int .i64 0) w:=by kernel_rfl
def CP:LB->ByteArray->Option Nat
 |[],_=>none
 |x::r,s=>if x=s then some 0 else (CP r s).map (·+1)
theorem Gg{l:LB}{s:ByteArray}(h:s∉l):CP l s=none:=by
 induction l with
 |nil=>rfl
 |cons x r ih=>
  rw[yN,not_or] at h
  rw[CP,yq (fun e=>h.1 e.symm),ih h.2];rfl
theorem IX{l:LB}{s:ByteArray}(h:s∈l):∃i,CP l s=some i∧∃h:i < l.length,l[i]=s:=by
 induction l with
 |nil=>simp at h
 |cons x r ih=>
  rw[CP]
  by_cases a:x=s
  ·rw[yD a]
   exact ⟨0,rfl,by simp,by simpa using a⟩
  ·rw[yq a]
   obtain ⟨i,h1,h2,h3⟩:=ih ((yN.1 h).resolve_left (fun e=>a e.symm))
   exact ⟨i+1,by rw[h1];rfl,by simpa using h2,by simpa using h3⟩
theorem Pb{l:LB}{x:ByteArray}(h:x∉l)(s:ByteArray):CP (l++[x]) s=if s=x then some l.length else CP l s:=by
 induction l with
 |nil=>
  simp only[yP,CP,yE]
  by_cases hs:s=x
  ·rw[yD hs,yD hs.symm]
  ·rw[yq hs,yq (fun e=>hs e.symm)];rfl
 |cons y r ih=>
  rw[yN,not_or] at h
  rw[yK,CP,CP,ih h.2]
  by_cases a:y=s
  ·rw[yD a,yD a]
   by_cases hs:s=x
   ·exact absurd (hs.symm.trans a.symm) h.1
   ·rw[yq hs]
  ·rw[yq a,yq a]
   by_cases hs:s=x
   ·rw[yD hs,yD hs];simp
   ·rw[yq hs,yq hs]
def BR(w:World)(m:Nat)(b:LB):Prop:=
 ∃c a,w.heap[m]?=some (.map c a)∧Fit (H:=Unit) Tryz.prog 9 (plainElem Tryz.prog 3) c a∧c.size=b.length∧
  ∀s:ByteArray,s.size<=maxLen->∀d:DataW Unit,(DataW.map ((c.toList.map (rg Tryz.prog 9 (plainElem Tryz.prog 3))).foldr DataW.insert [])).atKey (.string s.data.toList) d=(match CP b s with|some i=>.lit (.int .i64 (i:Int))|none=>d)
theorem Kk(w:World):BR (w.alloc (.map #[] 0)) w.heap.size []:=
 ⟨#[],0,(MapKept.heap_alloc w _).1,⟨by simp,stamped_empty 0,by simp⟩,rfl,fun s _ a=>rfl⟩
theorem BR.block{w w':World}{m:Nat}{b:LB}(h:BR w m b)(hb:w'.heap[m]?=w.heap[m]?):BR w' m b:=by
 obtain ⟨c,a,h1,h2⟩:=h
 exact ⟨c,a,hb.trans h1,h2⟩
theorem BR.lt{w:World}{m:Nat}{b:LB}(h:BR w m b):m < w.heap.size:=by
 obtain ⟨c,a,h1,h2⟩:=h
 exact (yd.1 h1).1
theorem BR.size{w:World}{m:Nat}{b:LB}(h:BR w m b):∃c a,w.heap[m]?=some (.map c a)∧c.size=b.length:=by
 obtain ⟨c,a,h1,_,h2,_⟩:=h
 exact ⟨c,a,h1,h2⟩
def Hz(a:LB)(s:ByteArray):Value:=
 match CP a s with
 |some i=>.tuple #[.int .i64 (i:Int),.bool true]
 |none=>.tuple #[.int .i64 0,.bool false]
theorem BR.look{w:World}{m:Nat}{c:LB}(h:BR w m c)(s:ByteArray)(hs:s.size<=maxLen):
  (Instr.lookup 137 (.map (some m)) (.string s) true).run Tryz.prog w=.ok (Hz c s) w:=by
 obtain ⟨q,j,hb,F,_,f⟩:=h
 have e:=keyOf_string_mk (P:=Tryz.prog) j1 hs
 rcases Maps.fit_look (t:=137) true Nx qB (UB w) hb F e with ⟨b,_,k⟩|⟨p,y,_,_,b,l,o,_⟩
 ·rw[b]
  have h1:=k .nil
  rw[f s hs] at h1
  unfold Hz
  cases g:CP c s with
  |none=>rfl
  |some i=>rw[g] at h1;cases h1
 ·rw[b]
  obtain ⟨a,n,d,_⟩:=plainElem_int_inv (H:=Unit) qK l
  have h1:=o .nil
  rw[f s hs] at h1
  unfold Hz
  cases g:CP c s with
  |none=>rw[g,d] at h1;cases h1
  |some i=>
   rw[g,d] at h1
   simp only[DataW.lit.injEq,Lit.int.injEq,qk] at h1
   rw[n,<-h1];rfl
theorem Kl{H:Type}(p:Lit × DataW H):∀l:List (Lit × DataW H),p∈l.foldr DataW.insert []->p∈l
 |[],h=>h
 |x::r,h=>by
  rw[List.foldr_cons,mem_insert_iff] at h
  exact h.elim (fun e=>by rw[e];exact List.mem_cons_self) (fun h=>List.mem_cons_of_mem _ (Kl p r h))
theorem BR.put{w:World}{m:Nat}{a:LB}(h:BR w m a)(s:ByteArray)(hs:s.size<=maxLen)(A:s∉a)(u:a.length < 1000000):
  ∃w',(Instr.mapUpdate 137 (.map (some m)) (.string s) (.int .i64 (a.length:Int))).run Tryz.prog w=.ok () w'∧BR w' m (a++[s])∧w.grownBy w' (some m):=by
 obtain ⟨l,o,hb,F,n,k⟩:=h
 have b:=keyOf_string_mk (P:=Tryz.prog) j1 hs
 have C:plainElem (H:=Unit) Tryz.prog 3 (iV (a.length:Int))=some (.lit (.int .i64 (a.length:Int)),[]):=plainElem_int qK (by simp only[Lit.wf,yF,z7];exact ⟨by have:IntKind.min .i64= -9223372036854775808:=rfl;omega,by have:IntKind.max .i64=9223372036854775807:=rfl;omega⟩)
 obtain ⟨f,c,j,F',d,_⟩:=Maps.fit_store (R':=plainElem Tryz.prog 3) (t:=137) Nx qB hb F (by unfold maxLen;omega) (fun _ _ _ _ u=>u) b C
 have q:∀x∈l.toList,x.key≠.string s:=by
  rcases Maps.fit_look (t:=137) true Nx qB (UB w) hb F b with ⟨_,h,_⟩|⟨G,y,_,_,_,_,z,_⟩
  ·exact h
  ·have h1:=z .nil
   have h2:=z (.lit (.bool true))
   rw[k s hs,Gg A] at h1 h2
   rw[<-h1] at h2
   cases h2
 refine ⟨_,j,⟨f,c,heap_setBlock_same hb _,F',?_,?_⟩,⟨rfl,rfl,rfl,by simp[setBlock],fun i _ hi=>heap_setBlock_other hb _ (fun e=>hi (by rw[e]))⟩⟩
 ·have E:f.size=((f.toList.map (rg Tryz.prog 9 (plainElem (H:=Unit) Tryz.prog 3))).foldr DataW.insert []).length:=by rw[length_sorted];simp
  rw[E,d]
  unfold putKey
  rw[length_insert]
  have v:=filter_all Nx F b q
  have D:(((l.toList.map (rg Tryz.prog 9 (plainElem (H:=Unit) Tryz.prog 3))).foldr DataW.insert []).filter (notKey (.string s.data.toList)))=((l.toList.map (rg Tryz.prog 9 (plainElem (H:=Unit) Tryz.prog 3))).foldr DataW.insert []):=by
   rw[List.filter_eq_self] at v ⊢
   exact fun p r=>v p (Kl p _ r)
  rw[D,length_sorted]
  simp[n]
 ·intro t B I
  rw[d]
  have r:(DataW.map (putKey (.string s.data.toList) (.lit (.int .i64 (a.length:Int))) ((l.toList.map (rg Tryz.prog 9 (plainElem (H:=Unit) Tryz.prog 3))).foldr DataW.insert [])))=(DataW.map ((l.toList.map (rg Tryz.prog 9 (plainElem (H:=Unit) Tryz.prog 3))).foldr DataW.insert [])).put (.string s.data.toList) (.lit (.int .i64 (a.length:Int))):=rfl
  rw[r,Pb A]
  by_cases g:t=s
  ·subst g
   rw[yD rfl,atKey_put_same ⟨_,rfl⟩ (Nx.key b)]
  ·rw[yq g,atKey_put_other (fun e=>g (by simp at e;exact ByteArray.ext (by simpa using e))),k t B]
end Go.Proofs.YtjofgpfocadomaaGreatDoor
namespace Go.Proofs.YtjofgpfocadomaaGreatDoor
open Go Go.RowKit
section
variable{P:Program}{ops:Array Oper}{Q:QT}{md:Region.Mode}{T:World->Prop}{k:Nat}
def DT(P:Program)(md:Region.Mode)(ops:Array Oper)(Q:QT)(T:World->Prop)(k:Nat):Nat->Array Bool->Act->World->Prop
 |0,listed,a,w=>Region.ready md ops listed=[]∧Q .normal a w
 |fuel+1,listed,a,w=>
  (Region.ready md ops listed=[]->Q .normal a w)∧
  ∀i∈Region.ready md ops listed,wpOp P ops Q i (fun b w'=>((listed.setIfInBounds i true).getD k true=false->T w')∧DT P md ops Q T k fuel (listed.setIfInBounds i true) b w') a w
theorem Kt:∀(fuel:Nat) (b:Array Bool) (a:Act) (w:World),DT P md ops Q T k fuel b a w->wpAny P md ops Q fuel b a w
 |0,_,_,_,h=>h
 |fuel+1,_,_,_,h=>⟨h.1,fun i hi=>wpOp_mono (fun c w' d=>Kt fuel _ c w' d.2) (h.2 i hi)⟩
theorem ME{i:Nat}{s:Oper}{v:Value}(hi:ops[i]?=some s)(n:∀(j:Nat) (o:Oper) cs b,ops[j]?=some o->o.op≠.select cs b)
 (N:∀c a w,Q (.panic c) (a.put s.dst v) w->Q (.panic c) a w)(t:k≠i)(L:∀ok,ops[k]?=some ok->∃e∈ok.after,Region.binds md e=true∧e.on=i):
  ∀(fuel:Nat) (d:Array Bool) (a:Act) (w:World),
   (∀j p,ops[j]?=some p->j≠i->d.getD j true=false->(∀e∈p.after,Region.binds md e=true->e.on≠i)->s.apart ops p=true)->
   i∈Region.ready md ops d->YieldsIf P ops T s v a->d.getD k true=false->T w->
   DT P md ops Q T k fuel (d.setIfInBounds i true) (a.put s.dst v) w->DT P md ops Q T k (fuel+1) d a w:=by
 intro fuel
 induction fuel with
 |zero=>
  intro d a w _ hr D B y H
  refine ⟨fun h=>(by rw[h] at hr;cases hr),fun j C=>?_⟩
  by_cases f:j=i
  ·subst f;exact D.wpOp hi y ⟨fun _=>y,H⟩
  ·have:=ready_mono C f
   rw[H.1] at this
   cases this
 |succ fuel ih=>
  intro d a w g hr D B y H
  refine ⟨fun h=>(by rw[h] at hr;cases hr),fun j C=>?_⟩
  by_cases f:j=i
  ·subst f;exact D.wpOp hi y ⟨fun _=>y,H⟩
  ·have h1:=H.2 j (ready_mono C f)
   obtain ⟨q,p,l,x⟩:=xw.1 C
   have r:∀e∈p.after,Region.binds md e=true->e.on≠i:=fun e E hb F=>by
    have h1:=x e E hb
    have h0:=(xw.1 hr).1
    rw[F] at h1
    rcases zQ i d.size with J|J
    ·simp[J] at h0 h1;rw[h0] at h1;cases h1
    ·simp[xA J] at h1
   have u:k≠j:=fun e=>by
    subst e
    obtain ⟨e,E,hb,I⟩:=L p l
    exact r e E hb I
   have h2:=wpOp_putIf l (g j p l f q r) (fun cs b=>n i s cs b hi) (fun cs b=>n j p cs b l) N D h1
   have m:∀k ok,ops[k]?=some ok->k≠i->(d.setIfInBounds j true).getD k true=false->
     (∀e∈ok.after,Region.binds md e=true->e.on≠i)->s.apart ops ok=true:=fun k ok B t A K=>by
    refine g k ok B t ?_ K
    by_cases z:j=k
    ·subst z;exact q
    ·rw[xd true z] at A;exact A
   have G:(d.setIfInBounds j true).getD k true=false:=by rw[xd true (zX u)];exact B
   refine wpOp_mono (fun O w' h3=>?_) h2
   have M:T w':=h3.2.1 (by rw[xd true (zX u),xd true (zX t)];exact B)
   refine ⟨fun _=>M,ih (d.setIfInBounds j true) O w' m (ready_mono hr (zX f)) h3.1 G M ?_⟩
   rw[Array.setIfInBounds_comm _ _ f]
   exact h3.2.2
theorem Lw{i:Nat}{r:Oper}{v:Value}(hi:ops[i]?=some r)(n:∀(j:Nat) (o:Oper) cs b,ops[j]?=some o->o.op≠.select cs b)
 (I:∀c a w,Q (.panic c) (a.put r.dst v) w->Q (.panic c) a w)(g:k≠i):
  ∀(fuel:Nat) (d:Array Bool) (a:Act) (w:World),
   (∀j s,ops[j]?=some s->j≠i->d.getD j true=false->(∀e∈s.after,Region.binds md e=true->e.on≠i)->r.apart ops s=true)->
   i∈Region.ready md ops d->YieldsIf P ops (fun _=>True) r v a->(d.getD k true=false->T w)->
   DT P md ops Q T k fuel (d.setIfInBounds i true) (a.put r.dst v) w->DT P md ops Q T k (fuel+1) d a w:=by
 intro fuel
 induction fuel with
 |zero=>
  intro d a w _ hr C D H
  refine ⟨fun h=>(by rw[h] at hr;cases hr),fun j B=>?_⟩
  by_cases f:j=i
  ·subst f;exact C.wpOp hi trivial ⟨fun h=>D (by rw[xd true (zX g)] at h;exact h),H⟩
  ·have:=ready_mono B f
   rw[H.1] at this
   cases this
 |succ fuel ih=>
  intro d a w l hr C D H
  refine ⟨fun h=>(by rw[h] at hr;cases hr),fun j B=>?_⟩
  by_cases f:j=i
  ·subst f;exact C.wpOp hi trivial ⟨fun h=>D (by rw[xd true (zX g)] at h;exact h),H⟩
  ·have h1:=H.2 j (ready_mono B f)
   obtain ⟨p,s,q,x⟩:=xw.1 B
   have A:∀e∈s.after,Region.binds md e=true->e.on≠i:=fun e K hb E=>by
    have h1:=x e K hb
    have h0:=(xw.1 hr).1
    rw[E] at h1
    rcases zQ i d.size with t|t
    ·simp[t] at h0 h1;rw[h0] at h1;cases h1
    ·simp[xA t] at h1
   have h2:=wpOp_putIf q (l j s q f p A) (fun cs b=>n i r cs b hi) (fun cs b=>n j s cs b q) I C h1
   have m:∀k ok,ops[k]?=some ok->k≠i->(d.setIfInBounds j true).getD k true=false->
     (∀e∈ok.after,Region.binds md e=true->e.on≠i)->r.apart ops ok=true:=fun k ok L g z F=>by
    refine l k ok L g ?_ F
    by_cases y:j=k
    ·subst y;exact p
    ·rw[xd true y] at z;exact z
   refine wpOp_mono (fun J w' h3=>?_) h2
   have G:(d.setIfInBounds j true).getD k true=false->T w':=fun h=>h3.2.1 (by
    by_cases u:k=j
    ·subst u
     rcases zQ k d.size with t|t
     ·simp[t] at h
     ·simp at h
    ·rw[xd true (zX u)] at h ⊢
     rw[xd true (zX g)];exact h)
   refine ⟨G,ih (d.setIfInBounds j true) J w' m (ready_mono hr (zX f)) h3.1 G ?_⟩
   rw[Array.setIfInBounds_comm _ _ f]
   exact h3.2.2
theorem Ah{i:Nat}{d:Oper}{v:Value}{fuel:Nat}{b:Array Bool}{a:Act}{w:World}(hi:ops[i]?=some d)
 (hs:Region.noSelect ops=true)(j:Region.free md ops b i=true)(hr:(Region.ready md ops b).contains i=true)
 (e:∀c a w,Q (.panic c) (a.put d.dst v) w->Q (.panic c) a w)(l:(k !=i)=true)(f:YieldsIf P ops (fun _=>True) d v a)(g:b.getD k true=false->T w)
 (h:DT P md ops Q T k fuel (b.setIfInBounds i true) (a.put d.dst v) w):DT P md ops Q T k (fuel+1) b a w:=
 Lw hi (Region.noSelect_spec hs) e (by simpa using l) fuel b a w (Region.free_spec hi j) (by simpa using hr) f g h
def SG(md:Region.Mode)(ops:Array Oper)(k i:Nat):Bool:=match ops[k]? with
 |none=>false
 |some o=>o.after.any fun e=>Region.binds md e&&e.on==i
theorem Bd{i:Nat}{d:Oper}{v:Value}{fuel:Nat}{b:Array Bool}{a:Act}{w:World}(hi:ops[i]?=some d)
 (hs:Region.noSelect ops=true)(n:Region.free md ops b i=true)(hr:(Region.ready md ops b).contains i=true)
 (j:∀c a w,Q (.panic c) (a.put d.dst v) w->Q (.panic c) a w)(f:(k !=i&&!b.getD k true&&SG md ops k i)=true)(o:YieldsIf P ops T d v a)(m:T w)
 (h:DT P md ops Q T k fuel (b.setIfInBounds i true) (a.put d.dst v) w):DT P md ops Q T k (fuel+1) b a w:=by
 simp only[yF,bne_iff_ne,Bool.not_eq_true'] at f
 refine ME hi (Region.noSelect_spec hs) j f.1.1 (fun ok g=>?_) fuel b a w (Region.free_spec hi n) (by simpa using hr) o f.1.2 m h
 have:=f.2
 unfold SG at this
 rw[g] at this
 simp only[xT,yF,beq_iff_eq] at this
 obtain ⟨e,l,h1,h2⟩:=this
 exact ⟨e,l,h1,h2⟩
theorem Ak{i:Nat}{o:Oper}{fuel:Nat}{b:Array Bool}{a:Act}{w:World}(hr:Region.ready md ops b=[i])(e:ops[i]?=some o)
 (h:∀K:Act->World->Prop,Hid (∀a w,((b.setIfInBounds i true).getD k true=false->T w)->DT P md ops Q T k fuel (b.setIfInBounds i true) a w->K a w)->if Region.wanted o (yielded ops a.tmps)=true then Oper.wp P o a w K Q else K (a.put o.dst undef) w):DT P md ops Q T k (fuel+1) b a w:=by
 refine ⟨fun h0=>(by rw[hr] at h0;cases h0),fun j c=>?_⟩
 rw[hr] at c
 obtain rfl:=zk.1 c
 exact wpOp_step e (fun l f=>h l (yb fun a w g d=>f a w ⟨g,d⟩))
theorem DF{fuel:Nat}{b:Array Bool}{a:Act}{w:World}(hr:Region.ready md ops b=[])(h:Q .normal a w):DT P md ops Q T k fuel b a w:=by
 cases fuel with
 |zero=>exact ⟨hr,h⟩
 |succ n=>exact ⟨fun _=>h,by rw[hr];simp⟩
theorem DG{id:Nat}{a:Act}{w:World}(b:P.follows .mixedOrders=true)(T:World->Prop)(k:Nat)
 (h:DT P .any ops Q T k ops.size (Array.replicate ops.size false) a w.drew):(Code.region id ops true).wp P Q a w:=
 wp_region_any b (Kt _ _ _ _ h)
end
end Go.Proofs.YtjofgpfocadomaaGreatDoor
namespace Go.Proofs.YtjofgpfocadomaaGreatDoor
open Go
structure J4 (ops:Array Oper) (a₀:Act) (Ext:Array Bool->Array Value->World->Prop) (Pp:Nat->Value->World->Prop) (listed:Array Bool) (a:Act) (w:World):Prop where
 size:listed.size=ops.size
 down:∀m,listed.getD m false=true->∀o,ops[m]?=some o->∀e∈o.after,Region.binds .any e=true->listed.getD e.on false=true
 ext:Ext listed a.tmps w
 defers:a.defers=a₀.defers
 tmps:a.tmps.size=a₀.tmps.size
 done:∀i,listed.getD i false=true->∀o t,ops[i]?=some o->o.dst=some t->Pp i (a.tmps.getD t undef) w
 free:∀k,(∀i,listed.getD i false=true->∀o,ops[i]?=some o->o.dst≠some k)->a.tmps.getD k undef=a₀.tmps.getD k undef
theorem Au{a:Act}{t:Nat}(v:Value)(h:t < a.tmps.size):(a.put (some t) v).tmps.getD t undef=v:=by
 simp[Act.put,h]
theorem Cf{a:Act}{t k:Nat}(v:Value)(h:t≠k):(a.put (some t) v).tmps.getD k undef=a.tmps.getD k undef:=by
 simp[Act.put,h]
def FF(ops:Array Oper):Bool:=(ops.toList.filterMap (·.dst)).Nodup&&(List.range ops.size).all fun i=>(ops[i]?).all fun o=>o.after.all fun e=>decide (e.on < i)||!Region.binds .any e
def GS(n:Nat)(ops:Array Oper):Bool:=ops.all fun o=>o.dst.all fun t=>decide (t < n)
theorem Qv:∀ {l:List Oper},(l.filterMap (·.dst)).Nodup->∀ {i j:Nat} {c d:Oper} {t:Tmp},l[i]?=some c->l[j]?=some d->c.dst=some t->d.dst=some t->i=j
 |[],_,i,_,_,_,_,h,_,_,_=>by simp at h
 |x::r,hn,i,j,c,d,t,hi,b,di,dj=>by
  have hr:(r.filterMap (·.dst)).Nodup:=by
   rw[List.filterMap_cons] at hn
   split at hn
   ·exact hn
   ·exact (List.nodup_cons.1 hn).2
  have a:∀ {k:Nat} {o:Oper},r[k]?=some o->o.dst=some t->x.dst≠some t:=by
   intro k o e hd f
   rw[List.filterMap_cons,f] at hn
   exact (List.nodup_cons.1 hn).1 (List.mem_filterMap.2 ⟨o,zR e,hd⟩)
  cases i with
  |zero=>
   cases j with
   |zero=>rfl
   |succ j=>
    simp only[xR,z8] at hi
    subst hi
    exact (a (by simpa using b) dj di).elim
  |succ i=>
   cases j with
   |zero=>
    simp only[xR,z8] at b
    subst b
    exact (a (by simpa using hi) di dj).elim
   |succ j=>exact yC (·+1) (Qv hr (by simpa using hi) (by simpa using b) di dj)
variable{P:Program}{ops:Array Oper}{Q:QT}
theorem MN{l:Array Bool}{i:Nat}(h:l.getD i false=true):i < l.size:=by
 rcases zQ i l.size with a|a
 ·exact a
 ·simp[xA a] at h
def KH(ops:Array Oper):Nat->Nat->Nat->Bool
 |0,_,_=>false
 |f+1,j,i=>(ops[j]?).any fun o=>o.after.any fun e=>Region.binds .any e&&(e.on==i||KH ops f e.on i)
theorem A1{a:Array Bool}(hd:∀m,a.getD m false=true->∀o,ops[m]?=some o->∀e∈o.after,Region.binds .any e=true->a.getD e.on false=true):
  ∀(f j i:Nat),KH ops f j i=true->a.getD j false=true->a.getD i false=true
 |0,_,_,h,_=>by cases h
 |f+1,j,i,h,hj=>by
  rw[KH] at h
  cases c:ops[j]? with
  |none=>rw[c] at h;cases h
  |some o=>
   rw[c,Option.any_some,xT] at h
   obtain ⟨e,g,b⟩:=h
   simp only[yF,Bool.or_eq_true,beq_iff_eq] at b
   have d:=hd j hj o c e g b.1
   rcases b.2 with h2|h2
   ·rw[<-h2];exact d
   ·exact A1 hd f e.on i h2 d
theorem J4.next{H:Act}{x:Array Bool->Array Value->World->Prop}{D:Nat->Value->World->Prop}{R:Nat->World->World->Prop}(p:FF ops=true)(q:GS H.tmps.size ops=true)
 (N:∀i j v w w',j≠i->(∀f,KH ops f j i=false)->R i w w'->D j v w->D j v w'){b:Array Bool}{a:Act}{w:World}(h:J4 ops H x D b a w){i:Nat}{o:Oper}(hi:i∈Region.ready .any ops b)(g:ops[i]?=some o)
 {v:Value}{w':World}(T:x (b.setIfInBounds i true) (a.put o.dst v).tmps w')(K:R i w w')(W:D i v w'):J4 ops H x D (b.setIfInBounds i true) (a.put o.dst v) w':=by
 obtain ⟨s,y,O,A⟩:=xw.1 hi
 obtain rfl:y=o:=yi (O.symm.trans g)
 have C:i < b.size:=by rw[h.size];exact (yd.1 g).1
 have l:∀ {m:Nat},(b.setIfInBounds i true).getD m false=true->m=i∨b.getD m false=true:=by
  intro m d
  by_cases e:i=m
  ·exact .inl e.symm
  ·rw[xd false e] at d;exact .inr d
 unfold FF at p
 rw[yF,z7] at p
 have B:∀ {i j:Nat} {P Q:Oper} {t:Tmp},ops[i]?=some P->ops[j]?=some Q->P.dst=some t->Q.dst=some t->i=j:=fun hi U X V=>
  Qv p.1 (by simpa using hi) (by simpa using U) X V
 have J:∀ {i:Nat} {o:Oper} {t:Tmp},ops[i]?=some o->o.dst=some t->t < H.tmps.size:=by
  intro i o t g hd
  unfold GS at q
  rw[zt] at q
  have:=q o (zY g)
  rw[hd] at this
  simpa using this
 refine ⟨by simp[h.size],?_,T,?_,?_,?_,?_⟩
 ·intro m d E c e F hb
  rcases l d with rfl|d
  ·obtain rfl:=yi (c.symm.trans g)
   exact getD_set_true (A e F hb)
  ·exact getD_set_true (h.down m d E c e F hb)
 ·rw[<-h.defers];unfold Act.put;cases y.dst<;>rfl
 ·rw[<-h.tmps];unfold Act.put;cases y.dst<;>simp
 ·intro m d E t c hd
  by_cases e:m=i
  ·subst e
   obtain rfl:=yi (c.symm.trans g)
   rw[hd,Au _ (by rw[h.tmps];exact J g hd)]
   exact W
  ·have G:=(l d).resolve_left e
   have M:∀f,KH ops f m i=false:=by
    intro f
    rw[ym]
    intro hb
    have z:=A1 h.down f m i hb G
    simp[C] at s z
    rw[z] at s;cases s
   have n:=N _ _ _ _ _ e M K (h.done m G E t c hd)
   cases r:y.dst with
   |none=>exact n
   |some u=>
    rw[Cf _ (fun L=>e (B c g hd (by rw[r,L])))]
    exact n
 ·intro k S
  have I:=h.free k (fun m d E c=>S m (getD_set_true d) E c)
  rw[<-I]
  cases r:y.dst with
  |none=>rfl
  |some u=>
   refine Cf _ (fun L=>?_)
   refine S i ?_ y g (by rw[r,L])
   simp[C]
theorem KI(c:FF ops=true){a:Array Bool}(hs:a.size=ops.size)(h:Region.ready .any ops a=[]):∀i,i < ops.size->a.getD i false=true:=by
 intro i
 induction i using Nat.strongRecOn with
 |ind i ih=>
  intro hi
  by_cases d:a.getD i false=true
  ·exact d
  ·exfalso
   have j:a.getD i true=false:=by
    have:i < a.size:=by omega
    simp[this] at d ⊢
    exact d
   have b:i∈Region.ready .any ops a:=by
    refine xw.2 ⟨j,ops[i],by simp[hi],fun e k f=>?_⟩
    have g:e.on < i:=by
     unfold FF at c
     rw[yF,yU] at c
     have h1:=c.2 i (ze.2 hi)
     simp only[Array.getElem?_eq_getElem hi,Option.all_some,zt] at h1
     have h2:=h1 e k
     rw[f] at h2
     simpa using h2
    exact ih e.on g (by omega)
   rw[h] at b
   cases b
theorem Rq{A:Act}{k:Array Bool->Array Value->World->Prop}{u:Nat->Value->World->Prop}{G:Nat->World->World->Prop}(y:FF ops=true)(B:GS A.tmps.size ops=true)
 (D:∀i j v w w',j≠i->(∀f,KH ops f j i=false)->G i w w'->u j v w->u j v w')
 (t:∀i b a w,J4 ops A k u b a w->i∈Region.ready .any ops b->∀o,ops[i]?=some o->wpOp P ops Q i (fun E w'=>∃v,E=a.put o.dst v∧k (b.setIfInBounds i true) (a.put o.dst v).tmps w'∧G i w w'∧u i v w') a w)
 (q:∀b a w,(∀i,i < ops.size->b.getD i false=true)->J4 ops A k u b a w->Q .normal a w):
  ∀(fuel:Nat) (b:Array Bool) (a:Act) (w:World),(∀i,i < ops.size->b.getD i false=true)∨((List.range ops.size).filter fun i=>!b.getD i false).length<=fuel->J4 ops A k u b a w->wpAny P .any ops Q fuel b a w:=by
 intro fuel
 induction fuel with
 |zero=>
  intro b a w s hM
  have n:∀i,i < ops.size->b.getD i false=true:=by
   rcases s with s|s
   ·exact s
   ·intro i hi
    have h0:=zr.1 (Nat.le_zero.1 s)
    have:=List.filter_eq_nil_iff.1 h0 i (ze.2 hi)
    simpa using this
  refine ⟨?_,q _ _ _ n hM⟩
  cases hr:Region.ready .any ops b with
  |nil=>rfl
  |cons i r=>
   exfalso
   have hi:i∈Region.ready .any ops b:=by rw[hr];simp
   obtain ⟨d,o,z,_⟩:=xw.1 hi
   have c:=(yd.1 z).1
   have:=n i c
   have m:i < b.size:=by rw[hM.size];exact c
   simp[m] at d this
   rw[this] at d;cases d
 |succ fuel ih=>
  intro b a w s hM
  refine ⟨fun hr=>q _ _ _ (KI y hM.size hr) hM,fun i hi=>?_⟩
  obtain ⟨d,o,z,_⟩:=xw.1 hi
  have c:=(yd.1 z).1
  have m:i < b.size:=by rw[hM.size];exact c
  have g:b.getD i false=false:=by simp[m] at d ⊢;exact d
  refine wpOp_mono (fun E w' K=>?_) (t i b a w hM hi o z)
  obtain ⟨v,rfl,H,C,J⟩:=K
  refine ih _ _ _ (.inr ?_) (hM.next y B D hi z H C J)
  have I:=s.resolve_left (fun h=>by rw[h i c] at g;cases g)
  have x:((List.range ops.size).filter fun j=>!(b.setIfInBounds i true).getD j false)=((List.range ops.size).filter fun j=>!b.getD j false).filter fun j=>decide (j≠i):=by
   rw[List.filter_filter]
   refine List.filter_congr fun j _=>?_
   by_cases e:i=j
   ·subst e;simp[m]
   ·rw[xd false e];simp[zX e]
  rw[x]
  have F:=(List.length_filter_lt_length_iff_exists (p:=fun j=>decide (j≠i)) (l:=(List.range ops.size).filter fun j=>!b.getD j false)).2 ⟨i,List.mem_filter.2 ⟨ze.2 c,by rw[g];rfl⟩,by simp⟩
  omega
theorem LA{id:Nat}{h:Act}{s:World}(u:P.follows .mixedOrders=true)(d:Array Bool->Array Value->World->Prop)(k:Nat->Value->World->Prop)(r:Nat->World->World->Prop)(n:FF ops=true)(p:GS h.tmps.size ops=true)
 (q:∀i j v w w',j≠i->(∀f,KH ops f j i=false)->r i w w'->k j v w->k j v w')(h0:d (Array.replicate ops.size false) h.tmps s.drew)
 (g:∀i b a w,J4 ops h d k b a w->i∈Region.ready .any ops b->∀o,ops[i]?=some o->wpOp P ops Q i (fun t w'=>∃v,t=a.put o.dst v∧d (b.setIfInBounds i true) (a.put o.dst v).tmps w'∧r i w w'∧k i v w') a w)
 (l:∀b a w,(∀i,i < ops.size->b.getD i false=true)->J4 ops h d k b a w->Q .normal a w):(Code.region id ops true).wp P Q h s:=by
 refine wp_region_any u ?_
 have e:∀i,(Array.replicate ops.size false).getD i false=false:=fun i=>by
  simp[Array.getElem?_replicate];split<;>rfl
 refine Rq n p q g l ops.size _ h _ (.inr ?_) ⟨by simp,fun m c=>?_,h0,rfl,rfl,fun m c=>?_,fun _ _=>rfl⟩
 ·exact yt (List.length_filter_le _ _) (by simp)
 ·rw[e] at c;cases c
 ·rw[e] at c;cases c
def CK(id:Nat):Code->Option (Array Oper)
 |.region i ops _=>if i=id then some ops else none
 |.seq x y=>(CK id x).or (CK id y)
 |.cond _ x y=>(CK id x).or (CK id y)
 |.block _ x=>CK id x
 |.loop x=>CK id x
 |.rangeFunc _ _ x y=>(CK id x).or (CK id y)
 |.scope x=>CK id x
 |_=>none
def DH(f:Func)(id:Nat):Option (Array Oper):=f.body.bind (CK id)
def SX(c:Array Value->World->Prop)(d:World->World->Prop)(f:Value->World->Prop)(b:Option Tmp)(a:Act)(w:World)(e:Act)(w':World):Prop:=
 ∃v,e=a.put b v∧c (a.put b v).tmps w'∧d w w'∧f v w'
def MO(ops:Array Oper):Bool:=ops.all fun o=>o.guard.isNone
theorem BN{id:Nat}{h:Act}{r:World}(t:P.follows .mixedOrders=true)(c:Array Bool->Array Value->World->Prop)(g:Nat->Value->World->Prop)(l:Nat->World->World->Prop)(m:FF ops=true)(n:GS h.tmps.size ops=true)
 (d:MO ops=true)(q:∀i j v w w',j≠i->(∀f,KH ops f j i=false)->l i w w'->g j v w->g j v w')(h0:c (Array.replicate ops.size false) h.tmps r.drew)
 (e:∀i b a w,J4 ops h c g b a w->i∈Region.ready .any ops b->∀o,ops[i]?=some o->o.wp P a w (SX (c (b.setIfInBounds i true)) (l i) (g i) o.dst a w) Q)
 (k:∀b a w,(∀i,i < ops.size->b.getD i false=true)->J4 ops h c g b a w->Q .normal a w):(Code.region id ops true).wp P Q h r:=by
 refine LA t c g l m n q h0 (fun i b a w hM hi o p=>?_) k
 unfold wpOp
 rw[p]
 have s:o.guard=none:=by
  unfold MO at d
  rw[zt] at d
  simpa using d o (zY p)
 have u:Region.wanted o (yielded ops a.tmps)=true:=by simp[Region.wanted,s]
 simp only[u,xm]
 exact .inl (e i b a w hM hi o p)
theorem J4.dep{n:Act}{k:Array Bool->Array Value->World->Prop}{l:Nat->Value->World->Prop}{b:Array Bool}{a:Act}{w:World}(h:J4 ops n k l b a w){i:Nat}(hi:i∈Region.ready .any ops b)
 (j:Nat)(t:Tmp)(hb:((ops[i]?).any fun o=>o.after.any fun e=>e.on==j&&Region.binds .any e)=true)(hd:(ops[j]?).bind (·.dst)=some t):l j (a.tmps[t]?.getD undef) w:=by
 rw[<-yB]
 obtain ⟨_,o,p,d⟩:=xw.1 hi
 rw[p,Option.any_some,xT] at hb
 obtain ⟨e,m,c⟩:=hb
 simp only[yF,beq_iff_eq] at c
 obtain ⟨rfl,g⟩:=c
 cases f:ops[e.on]? with
 |none=>rw[f] at hd;cases hd
 |some oj=>
  rw[f,xr] at hd
  exact h.done e.on (d e m g) oj t f hd
theorem J4.came{l:Act}{f:Array Bool->Array Value->World->Prop}{h:Nat->Value->World->Prop}{b:Array Bool}{a:Act}{w:World}(_:J4 ops l f h b a w){i:Nat}(hi:i∈Region.ready .any ops b)
 (j:Nat)(hb:((ops[i]?).any fun o=>o.after.any fun e=>e.on==j&&Region.binds .any e)=true):b.getD j false=true:=by
 obtain ⟨_,o,g,d⟩:=xw.1 hi
 rw[g,Option.any_some,xT] at hb
 obtain ⟨e,k,c⟩:=hb
 simp only[yF,beq_iff_eq] at c
 rw[<-c.1]
 exact d e k c.2
theorem J4.not_yet{j:Act}{d:Array Bool->Array Value->World->Prop}{g:Nat->Value->World->Prop}{b:Array Bool}{a:Act}{w:World}(h:J4 ops j d g b a w){i:Nat}(hi:i∈Region.ready .any ops b):b.getD i false=false:=by
 obtain ⟨c,o,f,_⟩:=xw.1 hi
 have e:i < b.size:=by rw[h.size];exact (yd.1 f).1
 simp[e] at c ⊢
 exact c
theorem J4.old{n:Act}{l:Array Bool->Array Value->World->Prop}{r:Nat->Value->World->Prop}{b:Array Bool}{a:Act}{w:World}(h:J4 ops n l r b a w){i:Nat}(hi:i∈Region.ready .any ops b)
 (k:Tmp)(hb:(ops.all fun o=>o.dst !=some k||o.after.any fun e=>e.on==i&&Region.binds .any e)=true)(v:Value)(s:n.tmps.getD k undef=v):a.tmps[k]?.getD undef=v:=by
 rw[<-yB,<-s]
 refine h.free k fun m t p g hd=>?_
 rw[zt] at hb
 have:=hb p (zY g)
 rw[hd] at this
 simp only[bne_self_eq_false,Bool.false_or,xT] at this
 obtain ⟨e,q,d⟩:=this
 simp only[yF,beq_iff_eq] at d
 have c:=h.down m t p g e q d.2
 rw[d.1] at c
 have f:=(xw.1 hi).1
 have j:=MN c
 simp[j] at f c
 rw[c] at f;cases f
theorem Gk{a b:Act}(D:List Nat)(hs:a.tmps.size=b.tmps.size)(hd:a.defers=b.defers)(j:∀k,k∉D->a.tmps.getD k undef=b.tmps.getD k undef):
  a={tmps:=D.foldl (fun t k=>t.setIfInBounds k (a.tmps.getD k undef)) b.tmps,defers:=b.defers}:=by
 have c:∀(D:List Nat) (t:Array Value),t.size=a.tmps.size->(∀k,k∉D->a.tmps.getD k undef=t.getD k undef)->a.tmps=D.foldl (fun t k=>t.setIfInBounds k (a.tmps.getD k undef)) t:=by
  intro D
  induction D with
  |nil=>
   intro t f h
   apply Array.ext f.symm
   intro i h1 h2
   have:=h i (by simp)
   simpa[h1,h2] using this
  |cons x r ih=>
   intro t f h
   rw[qi]
   refine ih _ (by simp[f]) fun k g=>?_
   by_cases e:x=k
   ·subst e
    by_cases l:x < t.size
    ·simp[l]
    ·simp[xA (show a.tmps.size<=x by omega)]
   ·rw[h k (by simp[g,zX e])]
    simp[e]
 obtain ⟨t,d⟩:=a
 simp only at hd
 subst hd
 exact yC (fun t=>({tmps:=t,defers:=b.defers}:Act)) (c D b.tmps hs.symm j)
end Go.Proofs.YtjofgpfocadomaaGreatDoor
namespace Go.Proofs.YtjofgpfocadomaaGreatDoor
open Go.RowKit
structure Rt where
 n:Int
 d:Int
def IP:Rt:=⟨0,0⟩
def Da:Int:=1073741824
def BD(a:Rt):Bool:=decide (1<=a.d)&&(decide (a.d<=Da)&&(decide (-Da<=a.n)&&(decide (a.n<=Da)&&decide (Int.gcd a.n a.d=1))))
def Gs(n d:Int):Rt × Int:=
 if d=0 then (IP,120)
 else if Da < max ((n.natAbs / Int.gcd n d:Nat):Int) ((d.natAbs / Int.gcd n d:Nat):Int) then (IP,2)
 else (⟨if (decide (n < 0) !=decide (d < 0))=true then -((n.natAbs / Int.gcd n d:Nat):Int) else ((n.natAbs / Int.gcd n d:Nat):Int),((d.natAbs / Int.gcd n d:Nat):Int)⟩,0)
def ER(op:Int)(a b:Rt):Int × Int:=
 if op=3 then (a.n*b.d+b.n*a.d,a.d*b.d) else if op=4 then (a.n*b.d - b.n*a.d,a.d*b.d) else if op=5 then (a.n*b.n,a.d*b.d) else (a.n*b.d,a.d*b.n)
def Qy(op:Int)(a b:Rt):Rt × Int:=if (BD a&&BD b)=true then Gs (ER op a b).1 (ER op a b).2 else (IP,120)
structure Dm where
 l:Int
 h:Int
 a:Int
deriving DecidableEq
def O4:Dm:=⟨0,0,0⟩
def Sh(n:Int):Bool:=decide (-4<=n)&&decide (n<=4)
def Gt(d:Dm):Bool:=Sh d.l&&(Sh d.h&&Sh d.a)
def Rs(s:Int)(a b:Dm):Dm:=⟨a.l+s*b.l,a.h+s*b.h,a.a+s*b.a⟩
def Qz(op:Int)(a b:Dm):Dm × Bool:=
 if op=3∨op=4 then (a,decide (a=b)) else
 let d:=Rs (if op=5 then 1 else -1) a b
 if Gt d then (d,true) else (O4,false)
structure Qn where
 dim:Dm
 v:Rt
 e:Int
def Fj:Qn:=⟨O4,IP,0⟩
structure Kn where
 name:ByteArray
 q:Qn
 ok:Bool
def F8(u:Int):Dm:=if u=1∨u=2 then ⟨1,0,0⟩ else if u=3∨u=4 then ⟨0,1,0⟩ else if u=5 then ⟨0,0,1⟩ else O4
def Ez(u:Int):Int:=if u=2 then 1000 else if u=4 then 24 else 1
def Fk:Int:=1099511627776
def Iz(n u:Int):Qn:=if Da / Ez u < n then ⟨F8 u,IP,2⟩ else ⟨F8 u,⟨Ez u*n,1⟩,0⟩
def CL(rn:ByteArray)(ri:Int):Bool:=decide (rn.size=0∧ri=0)
def Vb(op:Int)(a b:Qn × Bool):Qn × Bool:=
 if (a.2&&b.2)=true then
  (let d:=Qz op a.1.dim b.1.dim
  if d.2=true then
   (if a.1.e≠0 then (⟨d.1,IP,a.1.e⟩,true) else if b.1.e≠0 then (⟨d.1,IP,b.1.e⟩,true) else (⟨d.1,(Qy op a.1.v b.1.v).1,(Qy op a.1.v b.1.v).2⟩,true))
  else (Fj,false))
 else (Fj,false)
def Jv(a:List Kn)(rn:ByteArray)(ri:Int):Qn × Bool:=match a[ri.toNat]? with
 |some k=>if k.name=rn∧0<=ri then (k.q,k.ok) else (Fj,false)
 |none=>(Fj,false)
def U7(op n u:Int)(rn:ByteArray)(ri:Int):Bool:=decide (3<=op)&&(decide (op<=6)&&(decide (n=0)&&(decide (u=0)&&CL rn ri)))
def DV(a:List Kn):Nat->Ex->Qn × Bool
 |left,.mk op n u rn ri args=>
  if op=1 then (if args.length=0∧CL rn ri=true∧0<=n∧n<=Fk∧0<=u∧u<=5 then (Iz n u,true) else (Fj,false))
  else if op=2 then (if args.length=0∧n=0∧u=0 then Jv a rn ri else (Fj,false))
  else match left,args with
   |left+1,[x,y]=>if U7 op n u rn ri=true then Vb op (DV a left x) (DV a left y) else (Fj,false)
   |_,_=>(Fj,false)
def Aq:List Kn->List (ByteArray × Ex)->List Kn
 |l,[]=>l
 |l,d::r=>Aq (l++[⟨d.1,(DV l 8 d.2).1,(DV l 8 d.2).2⟩]) r
def QA(a b:Qn × Bool):Prop:=a.2=b.2∧a.1.dim=b.1.dim∧a.1.v=b.1.v∧(a.1.e=0↔b.1.e=0)
theorem QA.trans{a b c:Qn × Bool}(h:QA a b)(k:QA b c):QA a c:=⟨h.1.trans k.1,h.2.1.trans k.2.1,h.2.2.1.trans k.2.2.1,h.2.2.2.trans k.2.2.2⟩
mutual
def Fl(a:Ex->Ex):Nat->Ex->Ex
 |0,e=>a e
 |left+1,.mk op n u rn ri args=>if args.length=0 then a (.mk op n u rn ri args) else .mk op n u rn ri (JI a left args)
def JI(a:Ex->Ex):Nat->List Ex->List Ex
 |_,[]=> []
 |left,e::r=>Fl a left e::JI a left r
end
def F9:Ex->Ex
 |.mk op n u rn ri args=>if op≠1∨n < 0 then .mk op n u rn ri args else if u=2∧n<=Fk / 1000 then .mk op (1000*n) 1 rn ri args else if u=4∧n<=Fk / 24 then .mk op (24*n) 3 rn ri args else .mk op n u rn ri args
theorem QB{α:Type}{p q:Prop}[Decidable p][Decidable q](h:p↔q)(a b:α):(if p then a else b)=if q then a else b:=by
 by_cases c:p
 ·rw[yD c,yD (h.1 c)]
 ·rw[yq c,yq (fun k=>c (h.2 k))]
theorem Gm(a:List Kn)(l:Nat)(n u:Int)(rn:ByteArray)(ri:Int)(args:List Ex):DV a l (.mk 1 n u rn ri args)=if args.length=0∧CL rn ri=true∧0<=n∧n<=Fk∧0<=u∧u<=5 then (Iz n u,true) else (Fj,false):=by
 unfold DV
 rfl
theorem Pz(f:List Kn)(l:Nat)(e:Ex):DV f l (F9 e)=DV f l e:=by
 cases e with
 |mk op n u rn ri args=>
  simp only[F9]
  by_cases h0:op≠1∨n < 0
  ·rw[yD h0]
  ·rw[yq h0]
   obtain ⟨h1,h2⟩:op=1∧¬ n < 0:=by
    constructor
    ·exact Decidable.byContradiction fun h=>h0 (.inl h)
    ·exact fun h=>h0 (.inr h)
   subst h1
   clear h0
   by_cases o:u=2∧n<=Fk / 1000
   ·rw[yD o]
    obtain ⟨rfl,g⟩:=o
    have q:∀l,DV f l (.mk 1 (1000*n) 1 rn ri args)=DV f l (.mk 1 n 2 rn ri args):=by
     intro l
     have m:1000*n<=Fk:=by unfold Fk at g ⊢;omega
     have j:n<=Fk:=by unfold Fk at g ⊢;omega
     have k:Iz (1000*n) 1=Iz n 2:=by
      unfold Iz Da
      rw[show F8 1=⟨1,0,0⟩ from rfl,show F8 2=⟨1,0,0⟩ from rfl,show Ez 1=1 from rfl,show Ez 2=1000 from rfl]
      by_cases i:(1073741824:Int) / 1000 < n
      ·rw[yD (by omega),yD i]
      ·rw[yq (by omega),yq i,Int.one_mul]
     rw[Gm,Gm,k]
     refine QB ⟨?_,?_⟩ _ _
     ·rintro ⟨a,b,c,d,_,_⟩;exact ⟨a,b,by omega,j,by decide,by decide⟩
     ·rintro ⟨a,b,c,d,_,_⟩;exact ⟨a,b,by omega,m,by decide,by decide⟩
    exact q l
   ·rw[yq o]
    by_cases p:u=4∧n<=Fk / 24
    ·rw[yD p]
     obtain ⟨rfl,g⟩:=p
     have q:∀l,DV f l (.mk 1 (24*n) 3 rn ri args)=DV f l (.mk 1 n 4 rn ri args):=by
      intro l
      have m:24*n<=Fk:=by unfold Fk at g ⊢;omega
      have j:n<=Fk:=by unfold Fk at g ⊢;omega
      have k:Iz (24*n) 3=Iz n 4:=by
       unfold Iz Da
       rw[show F8 3=⟨0,1,0⟩ from rfl,show F8 4=⟨0,1,0⟩ from rfl,show Ez 3=1 from rfl,show Ez 4=24 from rfl]
       by_cases i:(1073741824:Int) / 24 < n
       ·rw[yD (by omega),yD i]
       ·rw[yq (by omega),yq i,Int.one_mul]
      rw[Gm,Gm,k]
      refine QB ⟨?_,?_⟩ _ _
      ·rintro ⟨a,b,c,d,_,_⟩;exact ⟨a,b,by omega,j,by decide,by decide⟩
      ·rintro ⟨a,b,c,d,_,_⟩;exact ⟨a,b,by omega,m,by decide,by decide⟩
     exact q l
    ·rw[yq p]
theorem O5(a:Ex->Ex)(k:Nat):∀l:List Ex,(JI a k l).length=l.length
 |[]=>by rw[JI]
 |e::r=>by rw[JI,yv,yv,O5 a k r]
theorem KJ(known:List Kn)(leaf:Ex->Ex)(hl:∀l e,DV known l (leaf e)=DV known l e):∀(k l:Nat) (e:Ex),DV known l (Fl leaf k e)=DV known l e
 |0,l,e=>by rw[Fl];exact hl l e
 |k+1,l,.mk op n u rn ri args=>by
  rw[Fl]
  split
  ·exact hl l _
  ·rename_i h0
   match args with
   |[]=>exact absurd rfl h0
   |[x]=>cases l<;>simp only[JI,DV,List.length_cons,List.length_nil]<;>rfl
   |x::y::z::r=>cases l<;>simp only[JI,DV,List.length_cons,O5]
   |[x,y]=>
    cases l with
    |zero=>simp only[JI,DV,List.length_cons,List.length_nil];rfl
    |succ l=>
     have ix:=KJ known leaf hl k l x
     have iy:=KJ known leaf hl k l y
     simp only[JI,DV,List.length_cons,List.length_nil,ix,iy]

def E5(a b:Nat):List Nat:=
 if a=0 then [] else if _h:b=0 then [a,0] else a::(if a % b=0 then [b] else E5 b (a % b))
 termination_by b
 decreasing_by exact Nat.mod_lt _ (Nat.pos_of_ne_zero (by assumption))
def I3(d:Nat):List Nat->Nat
 |[]=>d
 |x::r=>I3 x r
theorem O6{l:List Nat}(h:l≠ [])(d e:Nat):I3 d l=I3 e l:=by
 cases l with
 |nil=>exact absurd rfl h
 |cons x r=>rfl
theorem QC{a b:Nat}(h:a≠0):E5 a b≠ []:=by
 rw[E5,yq h]
 split<;>simp
theorem T1:∀(b a:Nat),b≠0->I3 b (E5 a b)=Nat.gcd a b:=by
 intro b
 induction b using Nat.strongRecOn with
 |_ b ih=>
  intro a hb
  rw[E5]
  by_cases d:a=0
  ·rw[yD d,d,Nat.gcd_zero_left];rfl
  ·rw[yq d,dif_neg hb]
   by_cases c:a % b=0
   ·rw[yD c]
    show b=Nat.gcd a b
    exact (Nat.gcd_eq_right (Nat.dvd_of_mod_eq_zero c)).symm
   ·rw[yq c]
    show I3 a (E5 b (a % b))=Nat.gcd a b
    rw[O6 (QC hb) a (a % b),ih (a % b) (Nat.mod_lt _ (Nat.pos_of_ne_zero hb)) b c,Nat.gcd_comm a b,Nat.gcd_rec b a,Nat.gcd_comm]
theorem MU(a:List Kn)(l:Nat)(n u:Int)(rn:ByteArray)(ri:Int)(args:List Ex):DV a l (.mk 2 n u rn ri args)=if args.length=0∧n=0∧u=0 then Jv a rn ri else (Fj,false):=by
 unfold DV
 rfl
theorem MV(a:List Kn)(l:Nat){op:Int}(h1:op≠1)(h2:op≠2)(n u:Int)(rn:ByteArray)(ri:Int)(x y:Ex):DV a (l+1) (.mk op n u rn ri [x,y])=if U7 op n u rn ri=true then Vb op (DV a l x) (DV a l y) else (Fj,false):=by
 conv=>lhs;unfold DV
 rw[yq h1,yq h2]
theorem K2(a:List Kn)(l:Nat){op:Int}(h1:op≠1)(h2:op≠2)(n u:Int)(rn:ByteArray)(ri:Int)(args:List Ex)(h:l=0∨args.length≠2):DV a l (.mk op n u rn ri args)=(Fj,false):=by
 conv=>lhs;unfold DV
 rw[yq h1,yq h2]
 match l,args,h with
 |0,_,_=>rfl
 |l+1,[],_=>rfl
 |l+1,[x],_=>rfl
 |l+1,[x,y],h=>rcases h with h|h<;>simp at h
 |l+1,x::y::z::r,_=>rfl
theorem Hn:∀(ds:List (ByteArray × Ex)) (l:List Kn),(Aq l ds).length=l.length+ds.length
 |[],l=>by rw[Aq];simp
 |d::r,l=>by rw[Aq,Hn r];simp;omega
end Go.Proofs.YtjofgpfocadomaaGreatDoor
namespace Go.Proofs.YtjofgpfocadomaaGreatDoor
open Go
theorem PF{P:Program}{o:Oper}{a:Act}{w:World}{K:Act->World->Prop}{Q:QT}{l n:Nat}(hd:∀c,o.op≠.defer c)(h:Oper.wp P o a w K Q):Oper.wpIn (Fence.wide.inRound l) n P o a w K Q:=by
 refine ⟨fun _ _=>trivial,?_⟩
 rw[Fence.inRound_round,zC l a.eval o hd]
 unfold Oper.wp at h
 generalize (execOp a.eval o).run P w=r at h ⊢
 cases r with
 |ok x w'=>
  cases x with
  |value v=>exact h
  |skip=>exact h
  |defer d=>exact h
  |enter f args=>exact ⟨fun h=>(by cases h),yX.2 h⟩
  |row r args=>exact ⟨fun h=>(by cases h),fun c cs _=>let ⟨v,w2,q,s⟩:=h c cs;⟨v,w2,q,stepsIn_wide.2 s⟩⟩
  |_=>exact h.elim
 |halt x w'=>cases x<;>exact h
def UK(ops:Array Oper):Bool:=ops.all fun o=>match o.op with
 |.defer _=>false
 |_=>true
section
variable{F:Fence}{n:Nat}{P:Program}{ops:Array Oper}{Q:QT}
theorem Oh{B:Act}{k:Array Bool->Array Value->World->Prop}{x:Nat->Value->World->Prop}{I:Nat->World->World->Prop}(z:FF ops=true)(C:GS B.tmps.size ops=true)
 (E:∀i j v w w',j≠i->(∀f,KH ops f j i=false)->I i w w'->x j v w->x j v w')
 (u:∀i b a w,J4 ops B k x b a w->i∈Region.ready .any ops b->∀o,ops[i]?=some o->wpOpIn F n P ops Q i (fun G w'=>∃v,G=a.put o.dst v∧k (b.setIfInBounds i true) (a.put o.dst v).tmps w'∧I i w w'∧x i v w') a w)
 (s:∀b a w,(∀i,i < ops.size->b.getD i false=true)->J4 ops B k x b a w->Q .normal a w):
  ∀(fuel:Nat) (b:Array Bool) (a:Act) (w:World),(∀i,i < ops.size->b.getD i false=true)∨((List.range ops.size).filter fun i=>!b.getD i false).length<=fuel->J4 ops B k x b a w->wpAnyIn F n P .any ops Q fuel b a w:=by
 intro fuel
 induction fuel with
 |zero=>
  intro b a w t hM
  have q:∀i,i < ops.size->b.getD i false=true:=by
   rcases t with t|t
   ·exact t
   ·intro i hi
    have h0:=zr.1 (Nat.le_zero.1 t)
    have:=List.filter_eq_nil_iff.1 h0 i (ze.2 hi)
    simpa using this
  refine ⟨?_,s _ _ _ q hM⟩
  cases hr:Region.ready .any ops b with
  |nil=>rfl
  |cons i r=>
   exfalso
   have hi:i∈Region.ready .any ops b:=by rw[hr];simp
   obtain ⟨d,o,A,_⟩:=xw.1 hi
   have c:=(yd.1 A).1
   have:=q i c
   have m:i < b.size:=by rw[hM.size];exact c
   simp[m] at d this
   rw[this] at d;cases d
 |succ fuel ih=>
  intro b a w t hM
  refine ⟨fun hr=>s _ _ _ (KI z hM.size hr) hM,fun i hi=>?_⟩
  obtain ⟨d,o,A,_⟩:=xw.1 hi
  have c:=(yd.1 A).1
  have m:i < b.size:=by rw[hM.size];exact c
  have g:b.getD i false=false:=by simp[m] at d ⊢;exact d
  refine wpOpIn_mono (fun G w' M=>?_) (u i b a w hM hi o A)
  obtain ⟨v,rfl,J,D,L⟩:=M
  refine ih _ _ _ (.inr ?_) (hM.next z C E hi A J D L)
  have K:=t.resolve_left (fun h=>by rw[h i c] at g;cases g)
  have y:((List.range ops.size).filter fun j=>!(b.setIfInBounds i true).getD j false)=((List.range ops.size).filter fun j=>!b.getD j false).filter fun j=>decide (j≠i):=by
   rw[List.filter_filter]
   refine List.filter_congr fun j _=>?_
   by_cases e:i=j
   ·subst e;simp[m]
   ·rw[xd false e];simp[zX e]
  rw[y]
  have H:=(List.length_filter_lt_length_iff_exists (p:=fun j=>decide (j≠i)) (l:=(List.range ops.size).filter fun j=>!b.getD j false)).2 ⟨i,List.mem_filter.2 ⟨ze.2 c,by rw[g];rfl⟩,by simp⟩
  omega
theorem JL{id:Nat}{h:Act}{t:World}(x:P.follows .mixedOrders=true)(d:Array Bool->Array Value->World->Prop)(k:Nat->Value->World->Prop)(s:Nat->World->World->Prop)(p:FF ops=true)(q:GS h.tmps.size ops=true)
 (r:∀i j v w w',j≠i->(∀f,KH ops f j i=false)->s i w w'->k j v w->k j v w')(h0:d (Array.replicate ops.size false) h.tmps t.drew)
 (g:∀i b a w,J4 ops h d k b a w->i∈Region.ready .any ops b->∀o,ops[i]?=some o->wpOpIn F n P ops Q i (fun u w'=>∃v,u=a.put o.dst v∧d (b.setIfInBounds i true) (a.put o.dst v).tmps w'∧s i w w'∧k i v w') a w)
 (l:∀b a w,(∀i,i < ops.size->b.getD i false=true)->J4 ops h d k b a w->Q .normal a w):(Code.region id ops true).wpIn F n P Q h t:=by
 refine wpIn_region_any x ?_
 have e:∀i,(Array.replicate ops.size false).getD i false=false:=fun i=>by
  simp[Array.getElem?_replicate];split<;>rfl
 refine Oh p q r g l ops.size _ h _ (.inr ?_) ⟨by simp,fun m c=>?_,h0,rfl,rfl,fun m c=>?_,fun _ _=>rfl⟩
 ·exact yt (List.length_filter_le _ _) (by simp)
 ·rw[e] at c;cases c
 ·rw[e] at c;cases c
end
section
variable{n:Nat}{P:Program}{ops:Array Oper}{Q:QT}
theorem G3{id l:Nat}{m:Act}{x:World}(A:P.follows .mixedOrders=true)(d:Array Bool->Array Value->World->Prop)(k:Nat->Value->World->Prop)(r:Nat->World->World->Prop)(s:FF ops=true)(t:GS m.tmps.size ops=true)
 (e:MO ops=true)(h:UK ops=true)(u:∀i j v w w',j≠i->(∀f,KH ops f j i=false)->r i w w'->k j v w->k j v w')(h0:d (Array.replicate ops.size false) m.tmps x.drew)
 (g:∀i b a w,J4 ops m d k b a w->i∈Region.ready .any ops b->∀o,ops[i]?=some o->o.wp P a w (SX (d (b.setIfInBounds i true)) (r i) (k i) o.dst a w) Q)
 (p:∀b a w,(∀i,i < ops.size->b.getD i false=true)->J4 ops m d k b a w->Q .normal a w):(Code.region id ops true).wpIn (Fence.wide.inRound l) n P Q m x:=by
 refine JL A d k r s t u h0 (fun i b a w hM hi o q=>?_) p
 unfold wpOpIn
 rw[q]
 have y:o.guard=none:=by
  unfold MO at e
  rw[zt] at e
  simpa using e o (zY q)
 have B:Region.wanted o (yielded ops a.tmps)=true:=by simp[Region.wanted,y]
 simp only[B,xm]
 refine PF (fun c z=>?_) (g i b a w hM hi o q)
 unfold UK at h
 rw[zt] at h
 have h2:=h o (zY q)
 rw[z] at h2
 cases h2
end
end Go.Proofs.YtjofgpfocadomaaGreatDoor
namespace Go.Proofs.YtjofgpfocadomaaGreatDoor
open Go.RowKit
section
variable{P:Program}{ops:Array Oper}{rest:List Oper}{o:Oper}{a:Act}{w:World}{Q:QT}
theorem KZ(b:o.guard=none)(ty:TypeId)(x:Operand)(c:o.op=.box ty x)(cs:Array Value)(e:a.eval x=.agg cs)
 (h:wpList P ops Q rest (a.put o.dst (.pointer (some ⟨w.heap.size,0,none⟩))) (w.alloc (.cells cs ty))):wpList P ops Q (o::rest) a w:=
 zw b fun K d=>by
  unfold Oper.wp execOp
  simp only[c,e,Instr.box,newVar,newRow,Value.cells,xq,run_newObj_alloc,Sem.run_pure,xX]
  exact d _ _ h
theorem Dw(g:o.guard=none)(t e:TypeId)(x:Operand)(j:o.op=.buildSlice t 1 #[(0,x)])(cs:LV)(m:a.eval x=.agg cs.toArray)
 (n:Nat)(l:P.underlying t=some (.slice e))(hi:((P.info? e).bind fun i=>i.zero.map fun z=>(i.size,z.cells.size))=some (n,n))(p:cs.length=n)(c:0 < n)(d:n<=1000)
 (h:wpList P ops Q rest (a.put o.dst (.slice (some ⟨w.heap.size,0,none⟩) 1 1)) (w.alloc (.cells cs.toArray e))):wpList P ops Q (o::rest) a w:=by
 cases b:P.info? e with
 |none=>simp[b] at hi
 |some ie=>
  cases f:ie.zero with
  |none=>simp[b,f] at hi
  |some z=>
   simp only[b,f,xr,xz,z8,zp] at hi
   obtain ⟨h1,h2⟩:=hi
   refine wpList_buildSlice g t e 1 _ j _ ie z l b f (by rw[h1];omega) (by rw[h1];omega) ?_ h
   have hs:((Array.range (1*ie.size)).map (z.cells[· % z.cells.size]!)).size=1*n:=by simp[h1]
   rw[h1] at hs ⊢
   generalize (Array.range (1*n)).map (z.cells[· % z.cells.size]!)=k at hs ⊢
   have:=Great.fill_whole (s:=n) c [.agg cs.toArray] k (by simp[Value.cells,p]) (by rw[hs];rfl)
   simp only[xM,List.zipIdx_nil,zu,zP,zc,zs,yS,Value.cells] at this
   simpa[m] using this
theorem I4(g:o.guard=none)(t e:TypeId)(x y:Operand)(k:o.op=.buildSlice t 2 #[(0,x),(1,y)])(c0 c1:LV)(p:a.eval x=.agg c0.toArray)(q:a.eval y=.agg c1.toArray)
 (n:Nat)(m:P.underlying t=some (.slice e))(hi:((P.info? e).bind fun i=>i.zero.map fun z=>(i.size,z.cells.size))=some (n,n))(r:c0.length=n)(j:c1.length=n)(c:0 < n)(d:n<=1000)
 (h:wpList P ops Q rest (a.put o.dst (.slice (some ⟨w.heap.size,0,none⟩) 2 2)) (w.alloc (.cells (c0++c1).toArray e))):wpList P ops Q (o::rest) a w:=by
 cases b:P.info? e with
 |none=>simp[b] at hi
 |some ie=>
  cases f:ie.zero with
  |none=>simp[b,f] at hi
  |some z=>
   simp only[b,f,xr,xz,z8,zp] at hi
   obtain ⟨h1,h2⟩:=hi
   refine wpList_buildSlice g t e 2 _ k _ ie z m b f (by rw[h1];omega) (by rw[h1];omega) ?_ h
   have hs:((Array.range (2*ie.size)).map (z.cells[· % z.cells.size]!)).size=2*n:=by simp[h1]
   rw[h1] at hs ⊢
   generalize (Array.range (2*n)).map (z.cells[· % z.cells.size]!)=l at hs ⊢
   have:=Great.fill_whole (s:=n) c [.agg c0.toArray,.agg c1.toArray] l (by simp[Value.cells,r,j]) (by rw[hs];rfl)
   simp only[xM,List.zipIdx_nil,zu,zP,zc,zs,yS,Value.cells] at this
   simpa[p,q] using this
end
theorem LL{v:Value}(a:v.cells=#[v])(ty:TypeId)(p:Addr):storeVar ty p v=storeVar ty p (.agg #[v]):=by
 unfold storeVar
 rw[a]
 rfl
theorem GB{P:Program}{ops:Array Oper}{rest:List Oper}{op:Oper}{a:Act}{w:World}{Q:QT}(c:op.guard=none)(ty:TypeId)(x y:Operand)(e:op.op=.store ty x y)
 (b o:Nat)(v:Value)(g:a.eval x=.pointer (some ⟨b,o,none⟩))(i:a.eval y=v)(f:v.cells=#[v])
 (d:w.there b o 1)(hi:(P.info? ty).map (·.size)=some 1)(h1:v.oneCell'=true)
 (h:wpList P ops Q rest (a.put op.dst undef) (w.setCells b o [v])):wpList P ops Q (op::rest) a w:=
 zw c fun K j=>by
  unfold Oper.wp execOp
  simp only[e,g,i,Instr.storeAt,Instr.sureAddr,xq,Sem.run_pure,xX,LL f,run_storeVar_mid w b o ty #[v] d hi (by simpa using h1)]
  exact j _ _ h
end Go.Proofs.YtjofgpfocadomaaGreatDoor
namespace Go.Proofs.YtjofgpfocadomaaGreatDoor
open Go.RowKit Go.ChangeShapes Go.WideShapes Go.Deep
theorem QU{α:Type}{P:Nat->α->Prop}:∀n:Nat,(∀i,i < n->∃t,P i t)->∃a:List α,a.length=n∧∀i (h:i < a.length),P i a[i]
 |0,_=>⟨[],rfl,fun i h=>by simp at h⟩
 |n+1,h=>by
  obtain ⟨a,c,f⟩:=QU n (fun i hi=>h i (by omega))
  obtain ⟨t,d⟩:=h n (by omega)
  refine ⟨a++[t],by simp[c],fun i hi=>?_⟩
  by_cases b:i < a.length
  ·rw[xy b];exact f i b
  ·have e:i=a.length:=by simp at hi;omega
   subst e
   simp only[xx (yf _),Nat.sub_self,List.getElem_cons_zero]
   rw[c];exact d
theorem E1{H:Type}{P:Program}{e:TypeId}{d:DataW H}{n:Nat}:∀ {l:List (DataW H)},d∈l->n∈d.weights P e->n∈DataW.weightsAll P e l
 |[],h,_=>by simp at h
 |x::r,h,hn=>by
  simp only[DataW.weightsAll,yy]
  rcases yN.1 h with rfl|h
  ·exact .inl hn
  ·exact .inr (E1 h hn)
theorem QV{w:World}{a:Addr}{v:Value}(h:w.cell? a=some v):a.block < w.heap.size:=by
 rcases zQ a.block w.heap.size with b|b
 ·exact b
 ·simp[World.cell?,xA b] at h
theorem A7{α:Type}(l:List α)(o n:Nat):l.drop o=(l.drop o).take n++l.drop (o+n):=by
 rw[<-List.drop_drop];exact (zO _ _).symm
theorem Ct:Tryz.prog.cellsOf 9=1:=by kernel_rfl
theorem Hr:Tryz.prog.cellsOf 3=1:=by kernel_rfl
theorem Q2:Tryz.prog.cellsOf 4=1:=by kernel_rfl
theorem Bt:Tryz.prog.cellsOf 23=2:=by kernel_rfl
theorem E2:Tryz.prog.cellsOf 64=12:=by kernel_rfl
theorem Aw:Tryz.prog.cellsOf 26=6:=by kernel_rfl
theorem Na:Tryz.prog.cellsOf 35=26:=by kernel_rfl
theorem LO:Tryz.prog.cellsOf 50=7:=by kernel_rfl
theorem Li:Tryz.prog.cellsOf 92=7:=by kernel_rfl
theorem JN:Tryz.prog.cellsOf 66=51:=by kernel_rfl
theorem Lj:Tryz.prog.cellsOf 94=12:=by kernel_rfl
theorem Lk:Tryz.prog.cellsOf 158=8:=by kernel_rfl
theorem Ll:Tryz.prog.cellsOf 109=23:=by kernel_rfl
theorem JO:Tryz.prog.cellsOf 131=37:=by kernel_rfl
theorem Lm:Tryz.prog.cellsOf 135=11:=by kernel_rfl
theorem Hu:Tryz.prog.cellsOf 27=1:=by kernel_rfl
theorem H4:Tryz.prog.cellsOf 28=1:=by kernel_rfl
theorem GG:Tryz.prog.cellsOf 29=1:=by kernel_rfl
theorem H7:Tryz.prog.cellsOf 30=1:=by kernel_rfl
theorem H8:Tryz.prog.cellsOf 107=1:=by kernel_rfl
theorem H9:Tryz.prog.cellsOf 31=1:=by kernel_rfl
theorem GH:Tryz.prog.cellsOf 32=1:=by kernel_rfl
theorem Ha:Tryz.prog.cellsOf 33=1:=by kernel_rfl
theorem Q3:0 < Tryz.prog.bytesOf 26:=yR (by kernel_rfl)
theorem S8:0 < Tryz.prog.bytesOf 50:=yR (by kernel_rfl)
theorem Q4:0 < Tryz.prog.bytesOf 92:=yR (by kernel_rfl)
theorem ON:0 < Tryz.prog.bytesOf 66:=yR (by kernel_rfl)
theorem Q5:0 < Tryz.prog.bytesOf 94:=yR (by kernel_rfl)
theorem Q6:0 < Tryz.prog.bytesOf 158:=yR (by kernel_rfl)
theorem S9:0 < Tryz.prog.bytesOf 109:=yR (by kernel_rfl)
theorem OO:0 < Tryz.prog.bytesOf 131:=yR (by kernel_rfl)
theorem Q7:0 < Tryz.prog.bytesOf 135:=yR (by kernel_rfl)
mutual
def I8:Ex->Prop
 |.mk _ _ _ _ _ args=>args.length*72<=140737488355328∧JC args
def JC:List Ex->Prop
 |[]=>True
 |e::r=>I8 e∧JC r
end
theorem OP:∀ {l:List Ex},(∀i (h:i < l.length),I8 l[i])->JC l
 |[],_=>by rw[JC];trivial
 |e::r,h=>by
  rw[JC]
  exact ⟨h 0 (by simp),OP fun i hi=>h (i+1) (by simpa using hi)⟩
theorem Mu:∀ {l:List Ex},JC l->∀i (h:i < l.length),I8 l[i]
 |e::r,h,0,_=>by rw[JC] at h;exact h.1
 |e::r,h,i+1,hi=>by rw[JC] at h;simpa using Mu h.2 i (by simpa using hi)
theorem Uy:Tryz.prog.bytesOf 26=72:=by kernel_rfl
section
variable{H:Type}{enc:TypeId × Value->H}{W:World}
def Wt(t:TypeId)(d:DataW H):Prop:=∀k∈d.weights Tryz.prog t,k<=reachBytes
def JP(W:World)(b:Nat):Prop:=b < W.heap.size
theorem E3{α:Type}{t e:TypeId}{sz:Nat}{Pr:LV->α->Prop}(z:Tryz.prog.underlying t=some (.slice e))(G:Tryz.prog.cellsOf e=sz)(C:0 < Tryz.prog.bytesOf e)(D:0 < sz){fuel:Nat}{x0:Value}{d:DataW H}{ps:List MemPlace}
 (S:∀n,n < fuel->∀cs d ps,DataW.trod enc Tryz.prog W 0 (fun _=>true) true n e cs=some (d,ps)->Wt e d->cs.length=sz->∃x,Pr cs x)
 (h:DataW.trod enc Tryz.prog W 0 (fun _=>true) true fuel t [x0]=some (d,ps))(R:Wt t d):∃(hd:As) (l:List α),x0=hd.v∧BF (JP W) W sz Pr hd l∧hd.n<=hd.c∧l.length*Tryz.prog.bytesOf e<=140737488355328:=by
 rcases DataW.trod_slice z h with ⟨o,_⟩|⟨a,len,cap,f,rest,n,Z,o,I,hb,M,hm,P,J,_,_⟩
 ·obtain rfl:x0=.slice none 0 0:=(zT o).1
  exact ⟨⟨none,0,0⟩,[],rfl,⟨rfl,by simp,fun i h=>by simp at h⟩,yf _,by simp⟩
 ·obtain rfl:x0=.slice (some a) len cap:=(zT o).1
  simp only[zp] at I
  have A:(f.length+rest.length)*Tryz.prog.bytesOf e<=140737488355328:=by
   have h1:=R ((f.length+rest.length)*Tryz.prog.bytesOf e) (by
    rw[I.1,DataW.weights,z]
    simp)
   have h2:reachBytes < 2 ^ 47:=reachBytes_lt
   omega
  have m:len*Tryz.prog.bytesOf e<=140737488355328:=yt (xI _ (by omega)) A
  have Q:len<=140737488355328:=yt (Nat.le_mul_of_pos_right _ C) m
  have p:∀i,i < len->∃q:LV × α,q.1.length=sz∧(∀j,j < sz->W.cell? ((a.add (i*sz)).add j)=q.1[j]?)∧Pr q.1 q.2:=by
   intro i hi
   have h1:=J i hi
   have h2:f[i]?=some (f[i]'(by omega)):=yk _
   rw[h2,G] at h1
   obtain ⟨cs,Y,K⟩:=Option.bind_eq_some_iff.1 h1
   obtain ⟨_,w,F⟩:=World.cells?_some Y
   obtain ⟨x,L⟩:=S n (by omega) cs _ _ K (fun k X=>R k (by
    rw[I.1,DataW.weights,z]
    exact List.mem_cons_of_mem _ (yy.2 (.inl (E1 (xO.2 ⟨_,yJ (by omega),rfl⟩) X))))) w
   exact ⟨(cs,x),w,F,L⟩
  by_cases h0:len=0
  ·subst h0
   exact ⟨⟨some a,0,cap⟩,[],rfl,⟨rfl,by simp,fun i h=>by simp at h⟩,M,by simp⟩
  ·obtain ⟨y,B,L⟩:=QU len p
   obtain ⟨q0,l0,c0,_⟩:=p 0 (by omega)
   have s:W.cell? a=some (q0.1[0]'(by omega)):=by
    have:=c0 0 D
    rw[yk (by omega)] at this
    simpa[Addr.add] using this
   have g:a.spot=none:=World.cell?_spot s
   have u:a.block < W.heap.size:=QV s
   obtain ⟨b,r,O⟩:=a
   simp only at g u
   subst g
   refine ⟨⟨some (aV b r),len,cap⟩,y.map (·.2),rfl,⟨by simp[B],by simp[B];omega,fun i hi=>?_⟩,M,by rw[yT,B];exact m⟩
   have E:i < y.length:=by simpa using hi
   obtain ⟨T,p2,V⟩:=L i E
   refine ⟨b,r,(y[i]).1,rfl,u,T,fun j v N=>?_,by simpa using V⟩
   have U:=(yx.1 N).1
   have:=p2 j (by omega)
   rw[N] at this
   simpa[zA,zN] using this
theorem OQ{a:Option Addr}:∀ {l:List Ex} {k:Nat},(∀i (h:i < l.length),∃b o cs,a=some ⟨b,o,none⟩∧JP W b∧W.rangeAt b (o+(k+i)*6) cs∧AH (JP W) W l[i] cs)->D5 (JP W) W a k l
 |[],_,_=>by rw[D5];trivial
 |e::r,k,h=>by
  rw[D5]
  refine ⟨h 0 (by simp),OQ fun i hi=>?_⟩
  obtain ⟨b,o,cs,h1,h2,h3,c⟩:=h (i+1) (by simpa using hi)
  exact ⟨b,o,cs,h1,h2,by rw[show k+1+i=k+(i+1) by omega];exact h3,by simpa using c⟩
theorem E4{fuel:Nat}{cs:LV}{d:DataW H}{ps:List MemPlace}(h:DataW.trod enc Tryz.prog W 0 (fun _=>true) true fuel 9 cs=some (d,ps)):∃s:ByteArray,cs=[.string s]∧s.size<=maxLen:=by
 obtain ⟨s,h1,_,h2⟩:=DataW.trod_string j1 h
 exact ⟨s,h1,h2⟩
theorem Fi{fuel:Nat}{cs:LV}{d:DataW H}{ps:List MemPlace}(h:DataW.trod enc Tryz.prog W 0 (fun _=>true) true fuel 3 cs=some (d,ps)):∃z,cs=[.int .i64 z]:=by
 obtain ⟨z,h1,_⟩:=DataW.trod_int qK h
 exact ⟨z,h1⟩
theorem Sa{fuel:Nat}{cs:LV}{d:DataW H}{ps:List MemPlace}(h:DataW.trod enc Tryz.prog W 0 (fun _=>true) true fuel 4 cs=some (d,ps)):∃z,cs=[.bool z]:=by
 obtain ⟨z,h1,_⟩:=DataW.trod_bool qR h
 exact ⟨z,h1⟩
theorem Dy{fuel:Nat}{cs:LV}{d:DataW H}{ps:List MemPlace}(h:DataW.trod enc Tryz.prog W 0 (fun _=>true) true fuel 23 cs=some (d,ps)):∃r:Rf,cs=AU r∧r.name.size<=maxLen:=by
 obtain ⟨g,n,_,j,b,c,a⟩:=zI Tryz.underlying23 h
 rw[Bt] at b
 match cs,b,g,c with
 |[x0,x1],_,[y0,y1],_=>
  have e:=a 0 _ rfl
  have t1:=a 1 _ rfl
  simp only[xR,List.getElem?_cons_succ] at e t1
  obtain ⟨s,f,hs⟩:=E4 e
  obtain ⟨z,i⟩:=Fi t1
  obtain rfl:x0=.string s:=(zT (show [x0]=[_] from f)).1
  obtain rfl:x1=iV z:=(zT (show [x1]=[_] from i)).1
  exact ⟨⟨s,z⟩,rfl,hs⟩
theorem AM:∀(fuel:Nat) (cs:LV) (d:DataW H) (ps:List MemPlace),DataW.trod enc Tryz.prog W 0 (fun _=>true) true fuel 26 cs=some (d,ps)->Wt 26 d->∃e:Ex,AH (JP W) W e cs∧I8 e:=by
 intro fuel
 induction fuel using Nat.strongRecOn with
 |ind fuel ih=>
  intro cs d ps h x
  obtain ⟨I,n,L,D,p,u,f⟩:=zI qG h
  rw[Aw] at p
  simp only[zp] at D
  match cs,p,I,u with
  |[x0,x1,x2,x3,x4,x5],_,[y0,y1,y2,y3,y4],_=>
   have z:=f 0 _ rfl
   have t1:=f 1 _ rfl
   have t2:=f 2 _ rfl
   have t3:=f 3 _ rfl
   have t4:=f 4 _ rfl
   simp only[xR,List.getElem?_cons_succ] at z t1 t2 t3 t4
   obtain ⟨C,F⟩:=Fi z
   obtain ⟨E,N⟩:=Fi t1
   obtain ⟨B,G⟩:=Fi t2
   obtain ⟨r,w,hr⟩:=Dy t3
   obtain rfl:x0=iV C:=(zT (show [x0]=[_] from F)).1
   obtain rfl:x1=iV E:=(zT (show [x1]=[_] from N)).1
   obtain rfl:x2=iV B:=(zT (show [x2]=[_] from G)).1
   have w:[x3,x4]=[Value.string r.name,iV r.n]:=w
   obtain ⟨rfl,K⟩:=zT w
   obtain ⟨rfl,_⟩:=zT K
   obtain ⟨hd,l,M,g,_,q⟩:=E3 (x0:=x5) (Pr:=fun cs e=>AH (JP W) W e cs∧I8 e) qF Aw Q3 (by decide) (fun m O cs d ps h x _=>ih m (by omega) cs d ps h x) (show DataW.trod enc Tryz.prog W 0 (fun _=>true) true n 24 [x5]=some (y4.1,y4.2) from t4) (fun k J=>x k (by
    rw[D.1,DataW.weights,qG]
    exact yz (j:=4) (t:=24) (d:=y4.1) rfl rfl _ J))
   subst M
   refine ⟨.mk C E B r.name r.n l,?_,?_⟩
   ·rw[AH]
    refine ⟨hd.a,hd.c,by unfold As.v;rw[g.1],g.2.1,hr,OQ fun i hi=>?_⟩
    obtain ⟨b,o,cs,g1,y,_,A,s⟩:=g.2.2 i hi
    exact ⟨b,o,cs,g1,y,by rw[yw];exact A,s.1⟩
   ·rw[I8]
    exact ⟨by rw[Uy] at q;exact q,OP fun i hi=>by
     obtain ⟨b,o,cs,g1,y,_,A,s⟩:=g.2.2 i hi
     exact s.2⟩
theorem OR{fuel:Nat}{cs:LV}{d:DataW H}{ps:List MemPlace}(h:DataW.trod enc Tryz.prog W 0 (fun _=>true) true fuel 64 cs=some (d,ps))(q:Wt 64 d):∃(e f:Ex) (c r:LV),cs=c++r∧AH (JP W) W e c∧AH (JP W) W f r:=by
 obtain ⟨t,n,v,m,b,j,a⟩:=DataW.trod_array qV h
 simp only[zp] at m
 rw[E2] at b
 match t,j with
 |[y0,y1],_=>
  have p:DataW.trod enc Tryz.prog W 0 (fun _=>true) true n 26 ((cs.drop (0*Tryz.prog.cellsOf 26)).take (Tryz.prog.cellsOf 26))=some (y0.1,y0.2):=a 0 (by decide)
  have t1:DataW.trod enc Tryz.prog W 0 (fun _=>true) true n 26 ((cs.drop (1*Tryz.prog.cellsOf 26)).take (Tryz.prog.cellsOf 26))=some (y1.1,y1.2):=a 1 (by decide)
  rw[Aw] at p t1
  obtain ⟨e,s,_⟩:=AM n _ _ _ p (fun k o=>q k (by
   rw[m.1,DataW.weights,qV]
   exact E1 (d:=y0.1) (by simp) o))
  obtain ⟨f,u,_⟩:=AM n _ _ _ t1 (fun k o=>q k (by
   rw[m.1,DataW.weights,qV]
   exact E1 (d:=y1.1) (by simp) o))
  refine ⟨e,f,_,_,?_,s,u⟩
  have l:=A7 cs 0 6
  have i:=A7 cs 6 6
  have g:cs.drop 12=[]:=by rw[<-b];exact zF
  simp only[Nat.reduceAdd,Nat.zero_mul,qr] at l i ⊢
  rw[g,yS] at i
  rw[zV] at l
  rw[<-i]
  rw[zV]
  exact l
theorem TG(fuel:Nat)(cs:LV)(d:DataW H)(ps:List MemPlace)(h:DataW.trod enc Tryz.prog W 0 (fun _=>true) true fuel 50 cs=some (d,ps))(A:Wt 50 d)(e:cs.length=7):∃x:Ga,K8 (JP W) W cs x:=by
 obtain ⟨p,n,z,s,_,b,a⟩:=zI qU h
 simp only[zp] at s
 have b:p.length=2:=b
 match p,b with
 |[y0,y1],_=>
  have g:DataW.trod enc Tryz.prog W 0 (fun _=>true) true n 9 ((cs.drop 0).take (Tryz.prog.cellsOf 9))=some (y0.1,y0.2):=a 0 _ rfl
  rw[Ct] at g
  have t1:DataW.trod enc Tryz.prog W 0 (fun _=>true) true n 26 ((cs.drop 1).take (Tryz.prog.cellsOf 26))=some (y1.1,y1.2):=a 1 _ rfl
  rw[Aw] at t1
  have m:cs=cs.drop 0:=rfl
  have c:=A7 cs 0 1
  obtain ⟨D,o⟩:∃q,q=(cs.drop 0).take 1:=⟨_,rfl⟩
  rw[<-o] at g c
  have i:=A7 cs 1 6
  obtain ⟨r,l⟩:∃q,q=(cs.drop 1).take 6:=⟨_,rfl⟩
  rw[<-l] at t1 i
  have f:cs.drop 7=[]:=by rw[<-e];exact zF
  simp only[Nat.reduceAdd] at c i
  rw[zV] at c
  rw[i] at c
  rw[f] at c
  clear m
  obtain ⟨y,v,w⟩:=E4 g
  obtain ⟨u,B,_⟩:=AM n r _ _ t1 (fun k C=>A k (by
   rw[s.1,DataW.weights,qU]
   exact yz (j:=1) (t:=26) (d:=y1.1) rfl rfl _ C))
  exact ⟨⟨y,u⟩,w,r,by rw[c,v];simp,B⟩
theorem Sb(fuel:Nat)(cs:LV)(d:DataW H)(ps:List MemPlace)(h:DataW.trod enc Tryz.prog W 0 (fun _=>true) true fuel 92 cs=some (d,ps))(A:Wt 92 d)(e:cs.length=7):∃x:DD,Hw (JP W) W cs x:=by
 obtain ⟨p,n,z,s,_,b,a⟩:=zI j2 h
 simp only[zp] at s
 have b:p.length=2:=b
 match p,b with
 |[y0,y1],_=>
  have g:DataW.trod enc Tryz.prog W 0 (fun _=>true) true n 9 ((cs.drop 0).take (Tryz.prog.cellsOf 9))=some (y0.1,y0.2):=a 0 _ rfl
  rw[Ct] at g
  have t1:DataW.trod enc Tryz.prog W 0 (fun _=>true) true n 26 ((cs.drop 1).take (Tryz.prog.cellsOf 26))=some (y1.1,y1.2):=a 1 _ rfl
  rw[Aw] at t1
  have m:cs=cs.drop 0:=rfl
  have c:=A7 cs 0 1
  obtain ⟨D,o⟩:∃q,q=(cs.drop 0).take 1:=⟨_,rfl⟩
  rw[<-o] at g c
  have i:=A7 cs 1 6
  obtain ⟨r,l⟩:∃q,q=(cs.drop 1).take 6:=⟨_,rfl⟩
  rw[<-l] at t1 i
  have f:cs.drop 7=[]:=by rw[<-e];exact zF
  simp only[Nat.reduceAdd] at c i
  rw[zV] at c
  rw[i] at c
  rw[f] at c
  clear m
  obtain ⟨y,v,w⟩:=E4 g
  obtain ⟨u,B,_⟩:=AM n r _ _ t1 (fun k C=>A k (by
   rw[s.1,DataW.weights,j2]
   exact yz (j:=1) (t:=26) (d:=y1.1) rfl rfl _ C))
  exact ⟨⟨y,u⟩,w,r,by rw[c,v];simp,B⟩
theorem Q8(fuel:Nat)(cs:LV)(d:DataW H)(ps:List MemPlace)(h:DataW.trod enc Tryz.prog W 0 (fun _=>true) true fuel 66 cs=some (d,ps))(g:Wt 66 d)(i:cs.length=51):∃x:AD,EW (JP W) W cs x:=by
 obtain ⟨L,n,a0,e,_,f,a⟩:=zI qW h
 simp only[zp] at e
 have f:L.length=8:=f
 match L,f with
 |[y0,y1,y2,y3,y4,y5,y6,y7],_=>
  have o:DataW.trod enc Tryz.prog W 0 (fun _=>true) true n 9 ((cs.drop 0).take (Tryz.prog.cellsOf 9))=some (y0.1,y0.2):=a 0 _ rfl
  rw[Ct] at o
  have t1:DataW.trod enc Tryz.prog W 0 (fun _=>true) true n 23 ((cs.drop 1).take (Tryz.prog.cellsOf 23))=some (y1.1,y1.2):=a 1 _ rfl
  rw[Bt] at t1
  have t2:DataW.trod enc Tryz.prog W 0 (fun _=>true) true n 26 ((cs.drop 3).take (Tryz.prog.cellsOf 26))=some (y2.1,y2.2):=a 2 _ rfl
  rw[Aw] at t2
  have t3:DataW.trod enc Tryz.prog W 0 (fun _=>true) true n 26 ((cs.drop 9).take (Tryz.prog.cellsOf 26))=some (y3.1,y3.2):=a 3 _ rfl
  rw[Aw] at t3
  have t4:DataW.trod enc Tryz.prog W 0 (fun _=>true) true n 26 ((cs.drop 15).take (Tryz.prog.cellsOf 26))=some (y4.1,y4.2):=a 4 _ rfl
  rw[Aw] at t4
  have t5:DataW.trod enc Tryz.prog W 0 (fun _=>true) true n 26 ((cs.drop 21).take (Tryz.prog.cellsOf 26))=some (y5.1,y5.2):=a 5 _ rfl
  rw[Aw] at t5
  have t6:DataW.trod enc Tryz.prog W 0 (fun _=>true) true n 64 ((cs.drop 27).take (Tryz.prog.cellsOf 64))=some (y6.1,y6.2):=a 6 _ rfl
  rw[E2] at t6
  have t7:DataW.trod enc Tryz.prog W 0 (fun _=>true) true n 64 ((cs.drop 39).take (Tryz.prog.cellsOf 64))=some (y7.1,y7.2):=a 7 _ rfl
  rw[E2] at t7
  have C:cs=cs.drop 0:=rfl
  have b:=A7 cs 0 1
  obtain ⟨q0,D⟩:∃q,q=(cs.drop 0).take 1:=⟨_,rfl⟩
  rw[<-D] at o b
  have u:=A7 cs 1 2
  obtain ⟨q1,z⟩:∃q,q=(cs.drop 1).take 2:=⟨_,rfl⟩
  rw[<-z] at t1 u
  have p:=A7 cs 3 6
  obtain ⟨M,w⟩:∃q,q=(cs.drop 3).take 6:=⟨_,rfl⟩
  rw[<-w] at t2 p
  have A:=A7 cs 9 6
  obtain ⟨J,r⟩:∃q,q=(cs.drop 9).take 6:=⟨_,rfl⟩
  rw[<-r] at t3 A
  have v:=A7 cs 15 6
  obtain ⟨I,F⟩:∃q,q=(cs.drop 15).take 6:=⟨_,rfl⟩
  rw[<-F] at t4 v
  have G:=A7 cs 21 6
  obtain ⟨K,B⟩:∃q,q=(cs.drop 21).take 6:=⟨_,rfl⟩
  rw[<-B] at t5 G
  have m:=A7 cs 27 12
  obtain ⟨q6,s⟩:∃q,q=(cs.drop 27).take 12:=⟨_,rfl⟩
  rw[<-s] at t6 m
  have E:=A7 cs 39 12
  obtain ⟨q7,y⟩:∃q,q=(cs.drop 39).take 12:=⟨_,rfl⟩
  rw[<-y] at t7 E
  have l:cs.drop 51=[]:=by rw[<-i];exact zF
  simp only[Nat.reduceAdd] at b u p A v G m E
  rw[zV] at b
  rw[u] at b
  rw[p] at b
  rw[A] at b
  rw[v] at b
  rw[G] at b
  rw[m] at b
  rw[E] at b
  rw[l] at b
  clear C
  obtain ⟨v0,e0,z0⟩:=E4 o
  obtain ⟨O,T,z1⟩:=Dy t1
  obtain ⟨v2,e2,_⟩:=AM n M _ _ t2 (fun k c=>g k (by
   rw[e.1,DataW.weights,qW]
   exact yz (j:=2) (t:=26) (d:=y2.1) rfl rfl _ c))
  obtain ⟨v3,S,_⟩:=AM n J _ _ t3 (fun k c=>g k (by
   rw[e.1,DataW.weights,qW]
   exact yz (j:=3) (t:=26) (d:=y3.1) rfl rfl _ c))
  obtain ⟨v4,R,_⟩:=AM n I _ _ t4 (fun k c=>g k (by
   rw[e.1,DataW.weights,qW]
   exact yz (j:=4) (t:=26) (d:=y4.1) rfl rfl _ c))
  obtain ⟨v5,e5,_⟩:=AM n K _ _ t5 (fun k c=>g k (by
   rw[e.1,DataW.weights,qW]
   exact yz (j:=5) (t:=26) (d:=y5.1) rfl rfl _ c))
  obtain ⟨U,X,c6,Z,Q,g6,V⟩:=OR t6 (fun k c=>g k (by
   rw[e.1,DataW.weights,qW]
   exact yz (j:=6) (t:=64) (d:=y6.1) rfl rfl _ c))
  obtain ⟨v7,N,c7,r7,e7,Y,P⟩:=OR t7 (fun k c=>g k (by
   rw[e.1,DataW.weights,qW]
   exact yz (j:=7) (t:=64) (d:=y7.1) rfl rfl _ c))
  exact ⟨⟨v0,O,v2,v3,v4,v5,U,X,v7,N⟩,z0,z1,M,J,I,K,c6,Z,c7,r7,by rw[b,e0,T,Q,e7];simp,e2,S,R,e5,g6,V,Y,P⟩
theorem Sc(fuel:Nat)(cs:LV)(d:DataW H)(ps:List MemPlace)(h:DataW.trod enc Tryz.prog W 0 (fun _=>true) true fuel 94 cs=some (d,ps))(L:Wt 94 d)(e:cs.length=12):∃x:CV,Hx (JP W) W cs x:=by
 obtain ⟨z,n,K,A,_,c,a⟩:=zI j3 h
 simp only[zp] at A
 have c:z.length=5:=c
 match z,c with
 |[y0,y1,y2,y3,y4],_=>
  have i:DataW.trod enc Tryz.prog W 0 (fun _=>true) true n 9 ((cs.drop 0).take (Tryz.prog.cellsOf 9))=some (y0.1,y0.2):=a 0 _ rfl
  rw[Ct] at i
  have t1:DataW.trod enc Tryz.prog W 0 (fun _=>true) true n 23 ((cs.drop 1).take (Tryz.prog.cellsOf 23))=some (y1.1,y1.2):=a 1 _ rfl
  rw[Bt] at t1
  have t2:DataW.trod enc Tryz.prog W 0 (fun _=>true) true n 4 ((cs.drop 3).take (Tryz.prog.cellsOf 4))=some (y2.1,y2.2):=a 2 _ rfl
  rw[Q2] at t2
  have t3:DataW.trod enc Tryz.prog W 0 (fun _=>true) true n 26 ((cs.drop 4).take (Tryz.prog.cellsOf 26))=some (y3.1,y3.2):=a 3 _ rfl
  rw[Aw] at t3
  have t4:DataW.trod enc Tryz.prog W 0 (fun _=>true) true n 23 ((cs.drop 10).take (Tryz.prog.cellsOf 23))=some (y4.1,y4.2):=a 4 _ rfl
  rw[Bt] at t4
  have s:cs=cs.drop 0:=rfl
  have b:=A7 cs 0 1
  obtain ⟨S,u⟩:∃q,q=(cs.drop 0).take 1:=⟨_,rfl⟩
  rw[<-u] at i b
  have m:=A7 cs 1 2
  obtain ⟨R,p⟩:∃q,q=(cs.drop 1).take 2:=⟨_,rfl⟩
  rw[<-p] at t1 m
  have l:=A7 cs 3 1
  obtain ⟨P,v⟩:∃q,q=(cs.drop 3).take 1:=⟨_,rfl⟩
  rw[<-v] at t2 l
  have r:=A7 cs 4 6
  obtain ⟨y,g⟩:∃q,q=(cs.drop 4).take 6:=⟨_,rfl⟩
  rw[<-g] at t3 r
  have o:=A7 cs 10 2
  obtain ⟨Q,w⟩:∃q,q=(cs.drop 10).take 2:=⟨_,rfl⟩
  rw[<-w] at t4 o
  have f:cs.drop 12=[]:=by rw[<-e];exact zF
  simp only[Nat.reduceAdd] at b m l r o
  rw[zV] at b
  rw[m] at b
  rw[l] at b
  rw[r] at b
  rw[o] at b
  rw[f] at b
  clear s
  obtain ⟨G,C,F⟩:=E4 i
  obtain ⟨B,M,O⟩:=Dy t1
  obtain ⟨N,D⟩:=Sa t2
  obtain ⟨v3,J,_⟩:=AM n y _ _ t3 (fun k E=>L k (by
   rw[A.1,DataW.weights,j3]
   exact yz (j:=3) (t:=26) (d:=y3.1) rfl rfl _ E))
  obtain ⟨v4,I,z4⟩:=Dy t4
  exact ⟨⟨G,B,N,v3,v4⟩,F,O,z4,y,by rw[b,C,M,D,I];simp,J⟩
theorem Sd(fuel:Nat)(cs:LV)(d:DataW H)(ps:List MemPlace)(h:DataW.trod enc Tryz.prog W 0 (fun _=>true) true fuel 158 cs=some (d,ps))(A:Wt 158 d)(e:cs.length=8):∃x:Cm,Fo (JP W) W cs x:=by
 obtain ⟨p,n,z,s,_,b,a⟩:=zI qC h
 simp only[zp] at s
 have b:p.length=2:=b
 match p,b with
 |[y0,y1],_=>
  have g:DataW.trod enc Tryz.prog W 0 (fun _=>true) true n 23 ((cs.drop 0).take (Tryz.prog.cellsOf 23))=some (y0.1,y0.2):=a 0 _ rfl
  rw[Bt] at g
  have t1:DataW.trod enc Tryz.prog W 0 (fun _=>true) true n 26 ((cs.drop 2).take (Tryz.prog.cellsOf 26))=some (y1.1,y1.2):=a 1 _ rfl
  rw[Aw] at t1
  have m:cs=cs.drop 0:=rfl
  have c:=A7 cs 0 2
  obtain ⟨D,o⟩:∃q,q=(cs.drop 0).take 2:=⟨_,rfl⟩
  rw[<-o] at g c
  have i:=A7 cs 2 6
  obtain ⟨r,l⟩:∃q,q=(cs.drop 2).take 6:=⟨_,rfl⟩
  rw[<-l] at t1 i
  have f:cs.drop 8=[]:=by rw[<-e];exact zF
  simp only[Nat.reduceAdd] at c i
  rw[zV] at c
  rw[i] at c
  rw[f] at c
  clear m
  obtain ⟨y,v,w⟩:=Dy g
  obtain ⟨u,B,_⟩:=AM n r _ _ t1 (fun k C=>A k (by
   rw[s.1,DataW.weights,qC]
   exact yz (j:=1) (t:=26) (d:=y1.1) rfl rfl _ C))
  exact ⟨⟨y,u⟩,w,r,by rw[c,v];simp,B⟩
theorem TH(fuel:Nat)(cs:LV)(d:DataW H)(ps:List MemPlace)(h:DataW.trod enc Tryz.prog W 0 (fun _=>true) true fuel 109 cs=some (d,ps))(i:Wt 109 d)(c:cs.length=23):∃x:BA × As,GM (JP W) W x.2 cs x.1:=by
 obtain ⟨M,n,a0,o,_,e,a⟩:=zI qw h
 simp only[zp] at o
 have e:M.length=7:=e
 match M,e with
 |[y0,y1,y2,y3,y4,y5,y6],_=>
  have u:DataW.trod enc Tryz.prog W 0 (fun _=>true) true n 9 ((cs.drop 0).take (Tryz.prog.cellsOf 9))=some (y0.1,y0.2):=a 0 _ rfl
  rw[Ct] at u
  have t1:DataW.trod enc Tryz.prog W 0 (fun _=>true) true n 23 ((cs.drop 1).take (Tryz.prog.cellsOf 23))=some (y1.1,y1.2):=a 1 _ rfl
  rw[Bt] at t1
  have t2:DataW.trod enc Tryz.prog W 0 (fun _=>true) true n 3 ((cs.drop 3).take (Tryz.prog.cellsOf 3))=some (y2.1,y2.2):=a 2 _ rfl
  rw[Hr] at t2
  have t3:DataW.trod enc Tryz.prog W 0 (fun _=>true) true n 26 ((cs.drop 4).take (Tryz.prog.cellsOf 26))=some (y3.1,y3.2):=a 3 _ rfl
  rw[Aw] at t3
  have t4:DataW.trod enc Tryz.prog W 0 (fun _=>true) true n 26 ((cs.drop 10).take (Tryz.prog.cellsOf 26))=some (y4.1,y4.2):=a 4 _ rfl
  rw[Aw] at t4
  have t5:DataW.trod enc Tryz.prog W 0 (fun _=>true) true n 26 ((cs.drop 16).take (Tryz.prog.cellsOf 26))=some (y5.1,y5.2):=a 5 _ rfl
  rw[Aw] at t5
  have t6:DataW.trod enc Tryz.prog W 0 (fun _=>true) true n 107 ((cs.drop 22).take (Tryz.prog.cellsOf 107))=some (y6.1,y6.2):=a 6 _ rfl
  rw[H8] at t6
  have D:cs=cs.drop 0:=rfl
  have b:=A7 cs 0 1
  obtain ⟨q0,F⟩:∃q,q=(cs.drop 0).take 1:=⟨_,rfl⟩
  rw[<-F] at u b
  have y:=A7 cs 1 2
  obtain ⟨q1,A⟩:∃q,q=(cs.drop 1).take 2:=⟨_,rfl⟩
  rw[<-A] at t1 y
  have w:=A7 cs 3 1
  obtain ⟨q2,G⟩:∃q,q=(cs.drop 3).take 1:=⟨_,rfl⟩
  rw[<-G] at t2 w
  have C:=A7 cs 4 6
  obtain ⟨K,s⟩:∃q,q=(cs.drop 4).take 6:=⟨_,rfl⟩
  rw[<-s] at t3 C
  have z:=A7 cs 10 6
  obtain ⟨N,I⟩:∃q,q=(cs.drop 10).take 6:=⟨_,rfl⟩
  rw[<-I] at t4 z
  have J:=A7 cs 16 6
  obtain ⟨L,E⟩:∃q,q=(cs.drop 16).take 6:=⟨_,rfl⟩
  rw[<-E] at t5 J
  have r:=A7 cs 22 1
  obtain ⟨R,l⟩:∃q,q=(cs.drop 22).take 1:=⟨_,rfl⟩
  rw[<-l] at t6 r
  have p:cs.drop 23=[]:=by rw[<-c];exact zF
  simp only[Nat.reduceAdd] at b y w C z J r
  rw[zV] at b
  rw[y] at b
  rw[w] at b
  rw[C] at b
  rw[z] at b
  rw[J] at b
  rw[r] at b
  rw[p] at b
  clear D
  obtain ⟨Z,S,Y⟩:=E4 u
  obtain ⟨P,e1,z1⟩:=Dy t1
  obtain ⟨v2,T⟩:=Fi t2
  obtain ⟨v3,e3,_⟩:=AM n K _ _ t3 (fun k g=>i k (by
   rw[o.1,DataW.weights,qw]
   exact yz (j:=3) (t:=26) (d:=y3.1) rfl rfl _ g))
  obtain ⟨v4,e4,_⟩:=AM n N _ _ t4 (fun k g=>i k (by
   rw[o.1,DataW.weights,qw]
   exact yz (j:=4) (t:=26) (d:=y4.1) rfl rfl _ g))
  obtain ⟨v5,e5,_⟩:=AM n L _ _ t5 (fun k g=>i k (by
   rw[o.1,DataW.weights,qw]
   exact yz (j:=5) (t:=26) (d:=y5.1) rfl rfl _ g))
  obtain ⟨Q,f⟩:∃v,R=[v]:=zL.1 (by rw[l,zb,xv,c];rfl)
  rw[f] at t6
  obtain ⟨B,V,X,Cg,O,_⟩:=E3 (Pr:=fun cs x=>Fo (JP W) W cs x) qv Lk Q6 (by decide) (fun m _ cs d ps h i U=>Sd m cs d ps h i U) t6 (fun k g=>i k (by
   rw[o.1,DataW.weights,qw]
   exact yz (j:=6) (t:=107) (d:=y6.1) rfl rfl _ g))
  rw[X] at f
  exact ⟨(⟨Z,P,v2,v3,v4,v5,V⟩,B),Y,z1,K,N,L,by rw[b,S,e1,T,f];simp,e3,e4,e5,Cg⟩
theorem Q9(fuel:Nat)(cs:LV)(d:DataW H)(ps:List MemPlace)(h:DataW.trod enc Tryz.prog W 0 (fun _=>true) true fuel 131 cs=some (d,ps))(l:Wt 131 d)(g:cs.length=37):∃x:B6,EX (JP W) W cs x:=by
 obtain ⟨Q,n,a0,f,_,e,a⟩:=zI qz h
 simp only[zp] at f
 have e:Q.length=10:=e
 match Q,e with
 |[y0,y1,y2,y3,y4,y5,y6,y7,y8,y9],_=>
  have o:DataW.trod enc Tryz.prog W 0 (fun _=>true) true n 3 ((cs.drop 0).take (Tryz.prog.cellsOf 3))=some (y0.1,y0.2):=a 0 _ rfl
  rw[Hr] at o
  have t1:DataW.trod enc Tryz.prog W 0 (fun _=>true) true n 9 ((cs.drop 1).take (Tryz.prog.cellsOf 9))=some (y1.1,y1.2):=a 1 _ rfl
  rw[Ct] at t1
  have t2:DataW.trod enc Tryz.prog W 0 (fun _=>true) true n 23 ((cs.drop 2).take (Tryz.prog.cellsOf 23))=some (y2.1,y2.2):=a 2 _ rfl
  rw[Bt] at t2
  have t3:DataW.trod enc Tryz.prog W 0 (fun _=>true) true n 23 ((cs.drop 4).take (Tryz.prog.cellsOf 23))=some (y3.1,y3.2):=a 3 _ rfl
  rw[Bt] at t3
  have t4:DataW.trod enc Tryz.prog W 0 (fun _=>true) true n 3 ((cs.drop 6).take (Tryz.prog.cellsOf 3))=some (y4.1,y4.2):=a 4 _ rfl
  rw[Hr] at t4
  have t5:DataW.trod enc Tryz.prog W 0 (fun _=>true) true n 26 ((cs.drop 7).take (Tryz.prog.cellsOf 26))=some (y5.1,y5.2):=a 5 _ rfl
  rw[Aw] at t5
  have t6:DataW.trod enc Tryz.prog W 0 (fun _=>true) true n 26 ((cs.drop 13).take (Tryz.prog.cellsOf 26))=some (y6.1,y6.2):=a 6 _ rfl
  rw[Aw] at t6
  have t7:DataW.trod enc Tryz.prog W 0 (fun _=>true) true n 26 ((cs.drop 19).take (Tryz.prog.cellsOf 26))=some (y7.1,y7.2):=a 7 _ rfl
  rw[Aw] at t7
  have r:DataW.trod enc Tryz.prog W 0 (fun _=>true) true n 26 ((cs.drop 25).take (Tryz.prog.cellsOf 26))=some (y8.1,y8.2):=a 8 _ rfl
  rw[Aw] at r
  have t9:DataW.trod enc Tryz.prog W 0 (fun _=>true) true n 26 ((cs.drop 31).take (Tryz.prog.cellsOf 26))=some (y9.1,y9.2):=a 9 _ rfl
  rw[Aw] at t9
  have I:cs=cs.drop 0:=rfl
  have b:=A7 cs 0 1
  obtain ⟨q0,J⟩:∃q,q=(cs.drop 0).take 1:=⟨_,rfl⟩
  rw[<-J] at o b
  have v:=A7 cs 1 1
  obtain ⟨q1,B⟩:∃q,q=(cs.drop 1).take 1:=⟨_,rfl⟩
  rw[<-B] at t1 v
  have p:=A7 cs 2 2
  obtain ⟨q2,y⟩:∃q,q=(cs.drop 2).take 2:=⟨_,rfl⟩
  rw[<-y] at t2 p
  have E:=A7 cs 4 2
  obtain ⟨q3,s⟩:∃q,q=(cs.drop 4).take 2:=⟨_,rfl⟩
  rw[<-s] at t3 E
  have w:=A7 cs 6 1
  obtain ⟨q4,L⟩:∃q,q=(cs.drop 6).take 1:=⟨_,rfl⟩
  rw[<-L] at t4 w
  have M:=A7 cs 7 6
  obtain ⟨P,F⟩:∃q,q=(cs.drop 7).take 6:=⟨_,rfl⟩
  rw[<-F] at t5 M
  have m:=A7 cs 13 6
  obtain ⟨O,u⟩:∃q,q=(cs.drop 13).take 6:=⟨_,rfl⟩
  rw[<-u] at t6 m
  have K:=A7 cs 19 6
  obtain ⟨S,A⟩:∃q,q=(cs.drop 19).take 6:=⟨_,rfl⟩
  rw[<-A] at t7 K
  have C:=A7 cs 25 6
  obtain ⟨N,z⟩:∃q,q=(cs.drop 25).take 6:=⟨_,rfl⟩
  rw[<-z] at r C
  have G:=A7 cs 31 6
  obtain ⟨R,D⟩:∃q,q=(cs.drop 31).take 6:=⟨_,rfl⟩
  rw[<-D] at t9 G
  have i:cs.drop 37=[]:=by rw[<-g];exact zF
  simp only[Nat.reduceAdd] at b v p E w M m K C G
  rw[zV] at b
  rw[v] at b
  rw[p] at b
  rw[E] at b
  rw[w] at b
  rw[M] at b
  rw[m] at b
  rw[K] at b
  rw[C] at b
  rw[G] at b
  rw[i] at b
  clear I
  obtain ⟨v0,e0⟩:=Fi o
  obtain ⟨T,Y,z1⟩:=E4 t1
  obtain ⟨v2,e2,z2⟩:=Dy t2
  obtain ⟨v3,X,z3⟩:=Dy t3
  obtain ⟨v4,V⟩:=Fi t4
  obtain ⟨v5,e5,_⟩:=AM n P _ _ t5 (fun k c=>l k (by
   rw[f.1,DataW.weights,qz]
   exact yz (j:=5) (t:=26) (d:=y5.1) rfl rfl _ c))
  obtain ⟨Z,U,_⟩:=AM n O _ _ t6 (fun k c=>l k (by
   rw[f.1,DataW.weights,qz]
   exact yz (j:=6) (t:=26) (d:=y6.1) rfl rfl _ c))
  obtain ⟨v7,e7,_⟩:=AM n S _ _ t7 (fun k c=>l k (by
   rw[f.1,DataW.weights,qz]
   exact yz (j:=7) (t:=26) (d:=y7.1) rfl rfl _ c))
  obtain ⟨v8,e8,_⟩:=AM n N _ _ r (fun k c=>l k (by
   rw[f.1,DataW.weights,qz]
   exact yz (j:=8) (t:=26) (d:=y8.1) rfl rfl _ c))
  obtain ⟨v9,e9,_⟩:=AM n R _ _ t9 (fun k c=>l k (by
   rw[f.1,DataW.weights,qz]
   exact yz (j:=9) (t:=26) (d:=y9.1) rfl rfl _ c))
  exact ⟨⟨v0,T,v2,v3,v4,v5,Z,v7,v8,v9⟩,z1,z2,z3,P,O,S,N,R,by rw[b,e0,Y,e2,X,V];simp,e5,U,e7,e8,e9⟩
theorem Se(fuel:Nat)(cs:LV)(d:DataW H)(ps:List MemPlace)(h:DataW.trod enc Tryz.prog W 0 (fun _=>true) true fuel 135 cs=some (d,ps))(J:Wt 135 d)(e:cs.length=11):∃x:D6,Hy (JP W) W cs x:=by
 obtain ⟨w,n,I,y,_,c,a⟩:=zI qA h
 simp only[zp] at y
 have c:w.length=4:=c
 match w,c with
 |[y0,y1,y2,y3],_=>
  have i:DataW.trod enc Tryz.prog W 0 (fun _=>true) true n 9 ((cs.drop 0).take (Tryz.prog.cellsOf 9))=some (y0.1,y0.2):=a 0 _ rfl
  rw[Ct] at i
  have t1:DataW.trod enc Tryz.prog W 0 (fun _=>true) true n 23 ((cs.drop 1).take (Tryz.prog.cellsOf 23))=some (y1.1,y1.2):=a 1 _ rfl
  rw[Bt] at t1
  have t2:DataW.trod enc Tryz.prog W 0 (fun _=>true) true n 23 ((cs.drop 3).take (Tryz.prog.cellsOf 23))=some (y2.1,y2.2):=a 2 _ rfl
  rw[Bt] at t2
  have t3:DataW.trod enc Tryz.prog W 0 (fun _=>true) true n 26 ((cs.drop 5).take (Tryz.prog.cellsOf 26))=some (y3.1,y3.2):=a 3 _ rfl
  rw[Aw] at t3
  have r:cs=cs.drop 0:=rfl
  have b:=A7 cs 0 1
  obtain ⟨P,s⟩:∃q,q=(cs.drop 0).take 1:=⟨_,rfl⟩
  rw[<-s] at i b
  have m:=A7 cs 1 2
  obtain ⟨O,o⟩:∃q,q=(cs.drop 1).take 2:=⟨_,rfl⟩
  rw[<-o] at t1 m
  have l:=A7 cs 3 2
  obtain ⟨N,u⟩:∃q,q=(cs.drop 3).take 2:=⟨_,rfl⟩
  rw[<-u] at t2 l
  have p:=A7 cs 5 6
  obtain ⟨v,g⟩:∃q,q=(cs.drop 5).take 6:=⟨_,rfl⟩
  rw[<-g] at t3 p
  have f:cs.drop 11=[]:=by rw[<-e];exact zF
  simp only[Nat.reduceAdd] at b m l p
  rw[zV] at b
  rw[m] at b
  rw[l] at b
  rw[p] at b
  rw[f] at b
  clear r
  obtain ⟨F,A,E⟩:=E4 i
  obtain ⟨z,K,M⟩:=Dy t1
  obtain ⟨L,B,C⟩:=Dy t2
  obtain ⟨v3,G,_⟩:=AM n v _ _ t3 (fun k D=>J k (by
   rw[y.1,DataW.weights,qA]
   exact yz (j:=3) (t:=26) (d:=y3.1) rfl rfl _ D))
  exact ⟨⟨F,z,L,v3⟩,E,M,C,v,by rw[b,A,K,B];simp,G⟩
theorem OS{fuel:Nat}{cs:LV}{d:DataW H}{ps:List MemPlace}(h:DataW.trod enc Tryz.prog W 0 (fun _=>true) true fuel 35 cs=some (d,ps))(g:Wt 35 d)(f:cs.length=26):∃(L:Bq) (x:Ax),BP (JP W) W L cs x∧L.duties.n<=L.duties.c∧L.rights.n<=L.rights.c:=by
 obtain ⟨ys,n,aw,u,_,I,a⟩:=zI qP h
 simp only[zp] at u
 have I:ys.length=11:=I
 match ys,I with
 |[y0,y1,y2,y3,y4,y5,y6,y7,y8,y9,y10],_=>
  have t0:DataW.trod enc Tryz.prog W 0 (fun _=>true) true n 9 ((cs.drop 0).take (Tryz.prog.cellsOf 9))=some (y0.1,y0.2):=a 0 _ rfl
  rw[Ct] at t0
  have t1:DataW.trod enc Tryz.prog W 0 (fun _=>true) true n 26 ((cs.drop 1).take (Tryz.prog.cellsOf 26))=some (y1.1,y1.2):=a 1 _ rfl
  rw[Aw] at t1
  have t2:DataW.trod enc Tryz.prog W 0 (fun _=>true) true n 26 ((cs.drop 7).take (Tryz.prog.cellsOf 26))=some (y2.1,y2.2):=a 2 _ rfl
  rw[Aw] at t2
  have t3:DataW.trod enc Tryz.prog W 0 (fun _=>true) true n 26 ((cs.drop 13).take (Tryz.prog.cellsOf 26))=some (y3.1,y3.2):=a 3 _ rfl
  rw[Aw] at t3
  have t4:DataW.trod enc Tryz.prog W 0 (fun _=>true) true n 27 ((cs.drop 19).take (Tryz.prog.cellsOf 27))=some (y4.1,y4.2):=a 4 _ rfl
  rw[Hu] at t4
  have t5:DataW.trod enc Tryz.prog W 0 (fun _=>true) true n 28 ((cs.drop 20).take (Tryz.prog.cellsOf 28))=some (y5.1,y5.2):=a 5 _ rfl
  rw[H4] at t5
  have t6:DataW.trod enc Tryz.prog W 0 (fun _=>true) true n 29 ((cs.drop 21).take (Tryz.prog.cellsOf 29))=some (y6.1,y6.2):=a 6 _ rfl
  rw[GG] at t6
  have t7:DataW.trod enc Tryz.prog W 0 (fun _=>true) true n 30 ((cs.drop 22).take (Tryz.prog.cellsOf 30))=some (y7.1,y7.2):=a 7 _ rfl
  rw[H7] at t7
  have t8:DataW.trod enc Tryz.prog W 0 (fun _=>true) true n 31 ((cs.drop 23).take (Tryz.prog.cellsOf 31))=some (y8.1,y8.2):=a 8 _ rfl
  rw[H9] at t8
  have t9:DataW.trod enc Tryz.prog W 0 (fun _=>true) true n 32 ((cs.drop 24).take (Tryz.prog.cellsOf 32))=some (y9.1,y9.2):=a 9 _ rfl
  rw[GH] at t9
  have y:DataW.trod enc Tryz.prog W 0 (fun _=>true) true n 33 ((cs.drop 25).take (Tryz.prog.cellsOf 33))=some (y10.1,y10.2):=a 10 _ rfl
  rw[Ha] at y
  have p:=A7 cs 0 1
  obtain ⟨q0,ah⟩:∃q,q=(cs.drop 0).take 1:=⟨_,rfl⟩
  rw[<-ah] at t0 p
  have s1:=A7 cs 1 6
  obtain ⟨q1,ae⟩:∃q,q=(cs.drop 1).take 6:=⟨_,rfl⟩
  rw[<-ae] at t1 s1
  have s2:=A7 cs 7 6
  obtain ⟨q2,ad⟩:∃q,q=(cs.drop 7).take 6:=⟨_,rfl⟩
  rw[<-ad] at t2 s2
  have s3:=A7 cs 13 6
  obtain ⟨q3,ac⟩:∃q,q=(cs.drop 13).take 6:=⟨_,rfl⟩
  rw[<-ac] at t3 s3
  have s4:=A7 cs 19 1
  obtain ⟨q4,aa⟩:∃q,q=(cs.drop 19).take 1:=⟨_,rfl⟩
  rw[<-aa] at t4 s4
  have s5:=A7 cs 20 1
  obtain ⟨q5,a2⟩:∃q,q=(cs.drop 20).take 1:=⟨_,rfl⟩
  rw[<-a2] at t5 s5
  have s6:=A7 cs 21 1
  obtain ⟨q6,R⟩:∃q,q=(cs.drop 21).take 1:=⟨_,rfl⟩
  rw[<-R] at t6 s6
  have s7:=A7 cs 22 1
  obtain ⟨q7,X⟩:∃q,q=(cs.drop 22).take 1:=⟨_,rfl⟩
  rw[<-X] at t7 s7
  have s8:=A7 cs 23 1
  obtain ⟨q8,V⟩:∃q,q=(cs.drop 23).take 1:=⟨_,rfl⟩
  rw[<-V] at t8 s8
  have s9:=A7 cs 24 1
  obtain ⟨q9,a0⟩:∃q,q=(cs.drop 24).take 1:=⟨_,rfl⟩
  rw[<-a0] at t9 s9
  have K:=A7 cs 25 1
  obtain ⟨af,A⟩:∃q,q=(cs.drop 25).take 1:=⟨_,rfl⟩
  rw[<-A] at y K
  have U:cs.drop 26=[]:=by rw[<-f];exact zF
  simp only[Nat.reduceAdd] at p s1 s2 s3 s4 s5 s6 s7 s8 s9 K
  rw[zV] at p
  rw[s1] at p
  rw[s2] at p
  rw[s3] at p
  rw[s4] at p
  rw[s5] at p
  rw[s6] at p
  rw[s7] at p
  rw[s8] at p
  rw[s9] at p
  rw[K] at p
  rw[U] at p
  obtain ⟨v0,e0,z0⟩:=E4 t0
  obtain ⟨v1,e1,_⟩:=AM n q1 _ _ t1 (fun k l=>g k (by
   rw[u.1,DataW.weights,qP]
   exact yz (j:=1) (t:=26) (d:=y1.1) rfl rfl _ l))
  obtain ⟨v2,e2,_⟩:=AM n q2 _ _ t2 (fun k l=>g k (by
   rw[u.1,DataW.weights,qP]
   exact yz (j:=2) (t:=26) (d:=y2.1) rfl rfl _ l))
  obtain ⟨v3,e3,_⟩:=AM n q3 _ _ t3 (fun k l=>g k (by
   rw[u.1,DataW.weights,qP]
   exact yz (j:=3) (t:=26) (d:=y3.1) rfl rfl _ l))
  obtain ⟨au,J⟩:∃v,q4=[v]:=zL.1 (by rw[aa,zb,xv,f];rfl)
  rw[J] at t4
  obtain ⟨Y,l4,e4,P,am,_⟩:=E3 (Pr:=fun cs x=>K8 (JP W) W cs x) qH LO S8 (by decide) (fun m _ cs d ps h g r=>TG m cs d ps h g r) t4 (fun k l=>g k (by
   rw[u.1,DataW.weights,qP]
   exact yz (j:=4) (t:=27) (d:=y4.1) rfl rfl _ l))
  rw[e4] at J
  obtain ⟨aq,F⟩:∃v,q5=[v]:=zL.1 (by rw[a2,zb,xv,f];rfl)
  rw[F] at t5
  obtain ⟨a8,l5,e5,a7,ak,_⟩:=E3 (Pr:=fun cs x=>Hw (JP W) W cs x) qI Li Q4 (by decide) (fun m _ cs d ps h g r=>Sb m cs d ps h g r) t5 (fun k l=>g k (by
   rw[u.1,DataW.weights,qP]
   exact yz (j:=5) (t:=28) (d:=y5.1) rfl rfl _ l))
  rw[e5] at F
  obtain ⟨av,D⟩:∃v,q6=[v]:=zL.1 (by rw[R,zb,xv,f];rfl)
  rw[D] at t6
  obtain ⟨O,l6,e6,Cg,aj,_⟩:=E3 (Pr:=fun cs x=>EW (JP W) W cs x) qJ JN ON (by decide) (fun m _ cs d ps h g r=>Q8 m cs d ps h g r) t6 (fun k l=>g k (by
   rw[u.1,DataW.weights,qP]
   exact yz (j:=6) (t:=29) (d:=y6.1) rfl rfl _ l))
  rw[e6] at D
  obtain ⟨ao,C⟩:∃v,q7=[v]:=zL.1 (by rw[X,zb,xv,f];rfl)
  rw[C] at t7
  obtain ⟨S,l7,e7,V0,an,_⟩:=E3 (Pr:=fun cs x=>Hx (JP W) W cs x) qL Lj Q5 (by decide) (fun m _ cs d ps h g r=>Sc m cs d ps h g r) t7 (fun k l=>g k (by
   rw[u.1,DataW.weights,qP]
   exact yz (j:=7) (t:=30) (d:=y7.1) rfl rfl _ l))
  rw[e7] at C
  obtain ⟨ap,B⟩:∃v,q8=[v]:=zL.1 (by rw[V,zb,xv,f];rfl)
  rw[B] at t8
  obtain ⟨Q,T,e8,s,al,_⟩:=E3 (Pr:=fun cs (x:BA × As)=>GM (JP W) W x.2 cs x.1) qM Ll S9 (by decide) (fun m _ cs d ps h g r=>TH m cs d ps h g r) t8 (fun k l=>g k (by
   rw[u.1,DataW.weights,qP]
   exact yz (j:=8) (t:=31) (d:=y8.1) rfl rfl _ l))
  rw[e8] at B
  obtain ⟨ar,G⟩:∃v,q9=[v]:=zL.1 (by rw[a0,zb,xv,f];rfl)
  rw[G] at t9
  obtain ⟨N,l9,e9,a6,M,_⟩:=E3 (Pr:=fun cs x=>EX (JP W) W cs x) qN JO OO (by decide) (fun m _ cs d ps h g r=>Q9 m cs d ps h g r) t9 (fun k l=>g k (by
   rw[u.1,DataW.weights,qP]
   exact yz (j:=9) (t:=32) (d:=y9.1) rfl rfl _ l))
  rw[e9] at G
  obtain ⟨ai,w⟩:∃v,af=[v]:=zL.1 (by rw[A,zb,xv,f];rfl)
  rw[w] at y
  obtain ⟨z,ag,ab,QN,E,_⟩:=E3 (Pr:=fun cs x=>Hy (JP W) W cs x) qO Lm Q7 (by decide) (fun m _ cs d ps h g r=>Se m cs d ps h g r) y (fun k l=>g k (by
   rw[u.1,DataW.weights,qP]
   exact yz (j:=10) (t:=33) (d:=y10.1) rfl rfl _ l))
  rw[ab] at w
  refine ⟨⟨0,Y,a8,O,S,Q,N,z,T.map (·.2)⟩,⟨v0,v1,v2,v3,l4,l5,l6,l7,T.map (·.1),l9,ag⟩,⟨z0,⟨q1,q2,q3,?_,e1,e2,e3⟩,P,a7,Cg,V0,⟨?_,?_,fun i hi=>?_⟩,a6,QN⟩,E,M⟩
  ·rw[p,e0,J,F,D,C,B,G,w];simp
  ·rw[yT];exact s.1
  ·rw[yT];exact s.2.1
  ·have Z:i < T.length:=by simpa using hi
   obtain ⟨b,o,c,g1,g2,g3,g4,g5⟩:=s.2.2 i Z
   refine ⟨b,o,c,g1,g2,g3,g4,?_⟩
   have e:A2 ⟨0,Y,a8,O,S,Q,N,z,T.map (·.2)⟩ i=(T[i]).2:=by
    unfold A2;simp[xH,Z]
   rw[e]
   simpa using g5
end
end Go.Proofs.YtjofgpfocadomaaGreatDoor
