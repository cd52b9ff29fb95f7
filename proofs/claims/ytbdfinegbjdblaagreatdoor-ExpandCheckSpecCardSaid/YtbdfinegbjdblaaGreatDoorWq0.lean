/- Parts of the proof, in short words: Kzz La Na Ga Gb Shelf Nb Oa Nc Nd Nf Ng Oe Oc Pe Rq Ea Eb Ef Fa Wa Ec Sq Cb Yo Cn -/
import Derived.Test.YtbdfinegbjdblaaGreatDoorProg
import Derived.WalkKit
import Derived.WalkSpells
import Derived.Below
import Derived.Deep.MidRow
import Derived.Lib.Hide
import Derived.RangeFuncNested
import Derived.RangeFuncCalls
import Derived.RangeFuncLeaves
import Derived.Shelf.Small.Strs
import Derived.Shelf.Strings.Search1
import Derived.Shelf.Strings.Search2
import Derived.Shelf.Strings.Search3
import Derived.Shelf.LaysM
import Derived.Shelf.Strings.Shaped
import Derived.Laws.EntriesVeiled
import Derived.WalkLawsBesides
import Derived.Deep.QuietTactic
import Derived.BigQuiet
import Derived.Lib.IndexAny
import Derived.OwnWalkIn
import Derived.TacticsInMore
import Derived.LoopNIn
import Derived.LoopIn
import Derived.Maps.Own
import Derived.Maps.Views
import Derived.OrdersHeld
import Derived.Deep.RegionHeld3
import Derived.Orders
import Derived.Deep.Slices
import Derived.Deep.Fields
import Derived.ChangeSame
import Derived.OpenShut
import Derived.SizedLaws
import Derived.OrdersIn
import Derived.TacticsIn
import Derived.ControlIn
import Derived.Great.BuildSlice
set_option maxRecDepth 100000
set_option maxHeartbeats 4000000
set_option linter.unusedSimpArgs false
set_option linter.defProp false
namespace Go.Proofs.YtbdfinegbjdblaaGreatDoor
open Go.RowKit Tryz
theorem yb{p:Prop}(h:p):Hid p:=h
theorem _root_.Go.RowKit.Hid.o{p:Prop}(h:Hid p):p:=h
def yd:=@Array.getElem?_eq_some_iff
def yf:=@Option.some.inj
def yg:=@Below.refl
def yi:=@Nat.le_refl
def yj:=@wpList_load_mid
def yk:=@List.getElem?_eq_getElem
def ym:=@if_neg
def yn:=@List.length_append
def yp:=@Below.heap_alloc
def yq:=@List.mem_cons
def yr:=@List.length_cons
def yt:=@wpList_store_row
def yu:=@List.not_mem_nil
def yw:=@Bool.and_eq_true
def yx:=@Nat.lt_of_lt_of_le
def yy:=@Nat.zero_add
def yz:=@if_pos
def yA:=@List.size_toArray
def yB:=@Bool.eq_false_iff
def yC:=@Nat.zero_le
def yD:=@List.flatten_cons
def yE:=@List.append_nil
def yF:=@List.getElem?_eq_some_iff
def yG:=@Nat.le_trans
def yH:=@Array.getElem?_modify
def yI:=@Array.getD_eq_getD_getElem?
def yJ:=@List.flatten_nil
def yK:=@List.length_nil
def yL:=@all_oneCell_toArray
def yM:=@decide_eq_true_eq
def yN:=@congrArg
def yO:=@List.mem_append
def yP:=@List.take_succ_eq_append_getElem
def yQ:=@List.cons_append
def yR:=@List.getElem_mem
def yS:=@List.nil_append
def yT:=@List.cons.inj
def yU:=@World.block_lt_of_cell?
def yV:=@or_false
def yW:=@Nat.le_of_ble_eq_true
def yX:=@List.append_assoc
def yY:=@List.flatMap_cons
def yZ:=@wpList_plain
def ze:=@World.size_alloc
def zg:=@heap_setCell_other
def zh:=@List.length_map
def zi:=@callsIn_wide
def zj:=@List.all_eq_true
def zl:=@List.mem_flatMap
def zn:=@List.getElem?_append_right
def zo:=@Bool.eq_iff_iff
def zp:=@heap_setCell_same
def zq:=@List.mem_iff_getElem
def zr:=@results_none
def zs:=@Option.some.injEq
def zt:=@List.mem_range
def zu:=@List.mem_singleton
def zw:=@Array.replicate_succ
def zx:=@Array.replicate_zero
def zy:=@List.drop_eq_getElem_cons
def zA:=@List.take_length
def zB:=@CallsIn.mono
def zC:=@Array.all_eq_true_iff_forall_mem
def zD:=@List.append_toArray
def zE:=@of_decide_eq_true
def zF:=@IntKind.wrap_i64
def zG:=@List.push_toArray
def zH:=@bodyPost_ret
def zI:=@List.getElem?_append_left
def zJ:=@List.flatMap_append
def zK:=@Oper.semAt_some
def zL:=@List.length_eq_zero_iff
def zM:=@List.length_take
def zN:=@List.map_cons
def zO:=@WideShapes.add_plain
def zP:=@List.mem_cons_of_mem
def zQ:=@rounds_succ
def zR:=@Option.map_some
def zS:=@Option.bind_some
def zT:=@List.setIfInBounds_toArray
def zU:=@World.ownsRow_nil
def zV:=@List.mem_of_getElem?
def zW:=@List.length_zipIdx
def zX:=@List.set_cons_zero
def zY:=@List.set_cons_succ
def zZ:=@List.cons.injEq
def xg:=@List.getElem_map
def xi:=@if_true
def xj:=@Array.mem_of_getElem?
def xk:=@Nat.add_sub_cancel_left
def xm:=@StepsIn.trans
def xp:=@Nat.lt_or_ge
def xq:=@List.mem_cons_self
def xt:=@Sem.run_bind
def xu:=@List.flatMap_map
def xw:=@Nat.add_assoc
def xx:=@List.map_append
def xy:=@World.rangeAt_of_block
def xz:=@decide_eq_true
def xA:=@List.drop_zero
def xB:=@DataW.trod_struct
def xC:=@Ne.symm
def xD:=@Bool.eq_false_or_eq_true
def xE:=@List.drop_length
def xF:=@getD_set_ne
def xG:=@List.forall_mem_cons
def xH:=@List.all_eq_false
def xI:=@mem_ready
def xJ:=@ByteArray.toList_eq
def xK:=@DataW.weights_mem_each
def xL:=@Bool.and_true
def xM:=@List.map_flatMap
def xN:=@List.take_append_drop
def xO:=@List.getElem?_take
def xP:=@Bool.false_eq_true
def xQ:=@wp_load_mid
def xR:=@decide_eq_false
def xS:=@List.mem_map
def xT:=@Nat.mul_le_mul_right
def xU:=@Result.andThen_ok
def xV:=@wpIn_wide
def xW:=@decide_eq_false_iff_not
def xX:=@List.getElem?_cons_zero
def xY:=@run_underlying
def xZ:=@List.ext_getElem
def q9:=@wp_loop_rounds
def qb:=@Array.getElem?_eq_none
def qc:=@List.map_nil
def qd:=@Below.heap_setCell
def qg:=@Prod.mk.injEq
def qi:=@beq_iff_eq
def qj:=@List.getElem_append_right
def qk:=@fenced_wide
def qm:=@stepR_block
def qn:=@Nat.le_succ
def qo:=@List.getElem_append_left
def qp:=@and_true
def qr:=@Value.pointer.injEq
def qt:=@wp_region_lit
def qu:=@Array.any_eq_true'
def qv:=@run_loadVar_mid
def qw:=@List.append_inj
def qz:=@List.take_of_length_le
def qA:=@List.getElem_cons_zero
def qB:=@List.zipWith_cons_cons
def qC:=@Nat.add_zero
def qD:=@Nat.mul_le_mul
def qE:=@bodyPost_end
def qF:=@results_tmp2
def qG:=@List.take_zero
def qH:=@Lib.cell?_alloc_some
def qI:=@Nat.lt_irrefl
def qJ:=@List.getD_eq_getElem?_getD
def qK:=@Nat.add_mul
def qL:=@beq_eq_false_iff_ne
def qM:=@List.getElem_zipIdx
def qN:=@Nat.zero_mul
def qO:=@Array.mk.injEq
def qP:=@Nat.mod_lt
def qQ:=@wpList_nil
def qR:=@Bool.not_eq_true'
def qS:=@Nat.one_mul
def qT:=@Addr.mk.injEq
def qU:=@underlying102
def qV:=@underlying104
def qW:=@underlying118
def qX:=@underlying120
def qY:=@underlying123
def qZ:=@underlying125
def j0:=@underlying127
def j1:=@underlying129
def j2:=@underlying140
def j3:=@underlying150
def j4:=@underlying194
def j5:=@underlying23
def j6:=@underlying24
def j7:=@underlying243
def j8:=@underlying25
def jb:=@underlying26
def jc:=@underlying27
def jd:=@underlying28
def je:=@underlying3
def jf:=@underlying31
def jg:=@underlying38
def jh:=@underlying4
def ji:=@underlying40
def jj:=@underlying41
def jk:=@underlying42
def jl:=@underlying43
def jm:=@underlying44
def jn:=@underlying45
def jo:=@underlying46
def jp:=@underlying47
def jq:=@underlying49
def js:=@underlying54
def jt:=@underlying56
def ju:=@underlying58
def jw:=@underlying62
def jx:=@underlying65
def jy:=@underlying77
def jz:=@underlying80
def jA:=@underlying82
def jB:=@underlying84
def jC:=@underlying9
def jD:=@underlying92
abbrev iV (n:Int):Value:=.int .i64 n
abbrev aV (b o:Nat):Addr:=⟨b,o,none⟩
abbrev pV (b o:Nat):Value:=.pointer (some ⟨b,o,none⟩)
abbrev LV:=List Value
abbrev LB:=List ByteArray
abbrev NP:=Nat->Prop
abbrev QT:=Exit->Act->World->Prop
abbrev _root_.Go.World.z (w:World):Nat:=w.heap.size
abbrev jE:Array Value:=#[.int .i64 0,.int .i64 0,.int .i64 0,.int .i64 0,.int .i64 0,.int .i64 0]
abbrev jF:Array Value:=#[.int .i64 0,.int .i64 0]
abbrev jG:Array Value:=#[.int .i64 0]
abbrev jH:Array Value:=#[.int .i64 0,.int .i64 0,.int .i64 0]
abbrev jI:List Value:=[.int .i64 0,.int .i64 0,.int .i64 0]
abbrev jJ:Array Value:=#[.slice none 0 0]
end Go.Proofs.YtbdfinegbjdblaaGreatDoor
namespace Go.Proofs.YtbdfinegbjdblaaGreatDoor
open Go.RowKit Tryz
variable{F:Fence}{n:Nat}{P:Program}
def RH(P:Program)(l:Nat)(R:Ending->World->Prop):Exit->Act->World->Prop
 |.normal,_,w=>∃v w',(Instr.endRound l none).run P w=.ok v w'/\R (.returned v) w'
 |.ret,_,w=>∃v w',(Instr.endRound l (some .ret)).run P w=.ok v w'/\R (.returned v) w'
 |.exit id,_,w=>∃v w',(Instr.endRound l (some (.exit id))).run P w=.ok v w'/\R (.returned v) w'
 |.goto t,_,w=>∃v w',(Instr.endRound l (some (.goto t))).run P w=.ok v w'/\R (.returned v) w'
 |.panic chain,a,w=>a.defers=[]/\R (.panicked chain) w
 |.outgrown,_,_=>False
theorem GD{l:Nat}{f:FuncId}{fn:Func}(D:P.funcs[f]?=some fn){tmps:Array Value}{assign body:Code}{w:World}{R:Ending->World->Prop}(E:F.fn f)
 (h:assign.wpIn (F.inRound l) n P (Exit.then (λx z=>∃y,(Instr.beginRound l).run P z=.ok () y/\body.wpIn (F.inRound l) n P (RH P l R) x y) (λ_ _ _=>False))
   {tmps:=tmps,defers:=[]} w):
  RoundIn F n P l f tmps assign body w R:=by
 refine ⟨E,λc cs hr=>?_⟩
 let b:Frame:={(default:Frame) with fn:=f,kind:=.normal,roundOf:=some l}
 have A:Frame.round l f tmps assign body .normal=b.atR {tmps:=tmps,defers:=[]} [.code assign,.beginRound,.code body]:=by
  simp[Frame.round,Frame.atR,b]
 have i:(F.inRound l).room ((c::cs).length+1+n):=hr
 have j:(F.inRound l).fn b.fn:=E
 obtain ⟨e,x,z,s,g⟩:=h b [.beginRound,.code body] (c::cs) rfl j i
 rw[<-A] at g
 cases e with
 |normal=>
  obtain ⟨y,B,q⟩:=s
  have s1:StepsIn (Machine.fenced P (F.inRound l)) P (lone (b.atR x [.beginRound,.code body]) (c::cs) z) (lone (b.atR x [.code body]) (c::cs) y):=
   .one (fenced_calm (fr:=b.atR x [.beginRound,.code body]) j i rfl) (stepR_beginRound rfl B)
  obtain ⟨I,r,H,k,a⟩:=q b [] (c::cs) rfl j i
  cases I with
  |normal=>
   obtain ⟨v,p,d,m⟩:=k
   exact ⟨.returned v,p,m,(xm g s1).trans (xm a (.one (fenced_calm (fr:=b.atR r []) j i rfl) (stepR_round_end rfl rfl d)))⟩
  |ret=>
   obtain ⟨v,p,d,m⟩:=k
   obtain ⟨u,hs⟩:=a.2 rfl
   exact ⟨.returned v,p,m,(xm g s1).trans (xm hs (.one (fenced_calm (fr:=b.atR r (.code .ret::u)) j i rfl) (stepR_round_ret rfl rfl d)))⟩
  |exit id=>
   obtain ⟨v,p,d,m⟩:=k
   obtain ⟨u,C,hs⟩:=a.2 rfl rfl
   exact ⟨.returned v,p,m,(xm g s1).trans (xm hs (.one (fenced_calm (fr:=b.atR r (.code (.exit id)::u)) j i rfl) (stepR_round_exit rfl rfl C d)))⟩
  |goto t=>
   obtain ⟨v,p,d,m⟩:=k
   obtain ⟨u,C,hs⟩:=a.2 rfl rfl
   exact ⟨.returned v,p,m,(xm g s1).trans (xm hs (.one (fenced_calm (fr:=b.atR r (.code (.goto t)::u)) j i rfl) (stepR_round_goto rfl rfl C d)))⟩
  |panic chain=>
   obtain ⟨hd,m⟩:=k
   obtain ⟨o,hs⟩:=a
   have G:Frame.leaving P {b.atR r o with mode:=.panicking chain} H (.panicked chain):=⟨rfl,hd,fn,D⟩
   exact ⟨.panicked chain,H,m,(xm g s1).trans (xm hs (.one (fenced_leaving (fr:={b.atR r o with mode:=.panicking chain}) j i G) (step_leave_panicked G)))⟩
  |outgrown=>exact k.elim
 |exit id=>exact s.elim
 |goto t=>exact s.elim
 |ret=>exact s.elim
 |panic chain=>exact s.elim
 |outgrown=>exact s.elim
def B7(O:NP)(W W':World):Prop:=W.heap.size<=W'.heap.size/\∀b,O b->W'.heap[b]?=W.heap[b]?
theorem B7.refl(O:NP)(W:World):B7 O W W:=⟨yi _,λ_ _=>rfl⟩
theorem B7.trans{O:NP}{A B C:World}(h:B7 O A B)(k:B7 O B C):B7 O A C:=⟨yG h.1 k.1,λb hb=>(k.2 b hb).trans (h.2 b hb)⟩
theorem B7.sub{O a:NP}{A B:World}(h:B7 O A B)(hs:∀b,a b->O b):B7 a A B:=⟨h.1,λb hb=>h.2 b (hs b hb)⟩
def Cv{β:Type}(J:β->NP->World->Prop):Prop:=
 ∀s O W a W',J s O W->W.heap.size<=W'.heap.size->W'.os=W.os->W'.tape=W.tape->W'.output=W.output->(∀b,¬ O b->b < W.heap.size->W'.heap[b]?=W.heap[b]?)->(∀b,a b->O b\/W.heap.size<=b)->J s a W'
def Vm(F:Fence)(n:Nat)(P:Program)(g:Nat)(lb:Array Value)(Hd:World->Prop)(xs:List (Array Value))(own:Option (List PanicEntry)):Prop:=
 ∀(l:Nat) (J:Nat->NP->World->Prop) (Jx:NP->World->Prop) (Jp:List PanicEntry->NP->World->Prop) (W:World),
  Cv J->Cv (λ(_:Unit)=>Jx)->(∀a,Cv (λ(_:Unit)=>Jp a))->(∀k O W,J k O W->Hd W)->(∀O W,Jx O W->Hd W)->(∀a,own=some a->∀O W,J xs.length O W->Jp a O W)->
  (∀k (c:k < xs.length) O W1,J k O W1->W.heap.size<=W1.heap.size->(∀b,O b->W.heap.size<=b/\b < W1.heap.size)->YieldAt F (n - 1) P l xs[k] W1 λe W'=>
   (e=.returned (.bool true)/\J (k+1) O W'/\B7 O W1 W')\/(e=.returned (.bool false)/\Jx O W'/\B7 O W1 W')\/(∃a,e=.panicked a/\Jp a O W'/\B7 O W1 W'))->
  J 0 (λ_=>False) W->
  CallsIn F n P g (#[.func (.yield l) #[] #[]]++lb) W λe W'=>
   ((∃v,e=.returned v)/\((own=none/\∃O,J xs.length O W')\/∃O,Jx O W'))\/∃a,e=.panicked a/\∃O,Jp a O W'
def Fv(f:FuncId)(P:Program)(c:Code)(Q:QT)(a:Act)(w:World):Prop:=
 ∀(b:Frame) (k:List Item) (cs:List Frame),b.roundOf=none->b.fn=f->
  ∃e d w',Q e d w'/\ArrivesIn (Machine.fenced P Fence.wide) P (lone (b.atR a (.code c::k)) cs w) b k cs e d w'
section
variable{f:FuncId}{Q:QT}{a:Act}{w:World}
theorem Xp{c:Code}(h:c.wpIn Fence.wide n P Q a w):Fv f P c Q a w:=λb k cs d _=>h b k cs d trivial (room_wide _)
theorem Aa{c:Code}(h:c.wp P Q a w):Fv f P c Q a w:=Xp (n:=0) (xV.2 h)
theorem Aj{x y:Code}(h:Fv f P x (Exit.then (Fv f P y Q) Q) a w):Fv f P (Code.seq x y) Q a w:=by
 intro b k cs j hb
 have h0:(lone (b.atR a (.code (.seq x y)::k)) cs w).fenced P Fence.wide:=qk _ _
 obtain ⟨e,m,i,g,c⟩:=h b (.code y::k) cs j hb
 cases e with
 |normal=>
  obtain ⟨p,o,q,n,d⟩:=g b k cs j hb
  exact ⟨p,o,q,n,.of_steps (.head h0 stepR_seq c) d⟩
 |exit id=>exact ⟨_,m,i,g,.of_steps (.one h0 stepR_seq) (.pass (x:=.code y) rfl (λ_ _=>.inl (by simp)) c)⟩
 |goto l=>exact ⟨_,m,i,g,.of_steps (.one h0 stepR_seq) (.pass (x:=.code y) rfl (λ_ _=>.inl (by simp)) c)⟩
 |ret=>exact ⟨_,m,i,g,.of_steps (.one h0 stepR_seq) (.pass (x:=.code y) rfl (λ_ _=>.inl (by simp)) c)⟩
 |panic ch=>exact ⟨_,m,i,g,.of_steps (.one h0 stepR_seq) (.pass (x:=.code y) rfl (λ_ _=>.inl (by simp)) c)⟩
 |outgrown=>exact ⟨_,m,i,g,.of_steps (.one h0 stepR_seq) (.pass (x:=.code y) rfl (λ_ _=>.inl (by simp)) c)⟩
theorem Dp{id:Nat}{c:Code}(h:Fv f P c (Exit.inBlock id Q) a w):Fv f P (Code.block id c) Q a w:=by
 intro b k cs q hb
 have h0:(lone (b.atR a (.code (.block id c)::k)) cs w).fenced P Fence.wide:=qk _ _
 obtain ⟨e,n,j,i,d⟩:=h b (.inBlock id::k) cs q hb
 cases e with
 |normal=>exact ⟨.normal,n,j,i,.head h0 qm (xm d (.one (qk _ _) stepR_inBlock))⟩
 |exit id'=>
  by_cases g:id'=id
  ·simp only[Exit.inBlock,g,xi] at i
   exact ⟨.normal,n,j,i,.head h0 qm (d.1 k (by simp[exitTo,g]))⟩
  simp only[Exit.inBlock,g,if_false] at i
  have this:(id==id')=false:=by simp;exact λh=>g h.symm
  have p:exitTo id' (.inBlock id::k)=exitTo id' k:=by simp[exitTo,this]
  exact ⟨.exit id',n,j,i,λk' o=>.head h0 qm (d.1 k' (by rw[p];exact o)),
   λm o=>let ⟨k₁,h1,h2⟩:=d.2 m (by rw[p];exact o);⟨k₁,h1,.head h0 qm h2⟩⟩
 |goto l=>
  have p:gotoIn l (.inBlock id::k)=gotoIn l k:=by simp[gotoIn]
  exact ⟨_,n,j,i,λk' o=>.head h0 qm (d.1 k' (by rw[p];exact o)),
   λm o=>let ⟨k₁,h1,h2⟩:=d.2 m (by rw[p];exact o);⟨k₁,h1,.head h0 qm h2⟩⟩
 |ret=>exact ⟨_,n,j,i,.of_steps (.one h0 qm) d⟩
 |panic ch=>exact ⟨_,n,j,i,.of_steps (.one h0 qm) d⟩
 |outgrown=>exact ⟨_,n,j,i,.of_steps (.one h0 qm) d⟩
end
def Yp(O:NP)(J:Nat->NP->World->Prop)(Jx:Code->NP->World->Prop)(Jp:List PanicEntry->NP->World->Prop)(k:Nat)(W:World):Exit->Act->World->Prop
 |.normal,_,W'=>B7 O W W'/\J (k+1) O W'
 |.ret,_,W'=>B7 O W W'/\Jx .ret O W'
 |.exit id,_,W'=>B7 O W W'/\Jx (.exit id) O W'
 |.goto t,_,W'=>B7 O W W'/\Jx (.goto t) O W'
 |.panic ch,a,W'=>a.defers=[]/\B7 O W W'/\Jp ch O W'
 |.outgrown,_,_=>False
theorem Cv.put{β:Type}{J:β->NP->World->Prop}(h:Cv J){s:β}{O:NP}{W:World}{l:Nat}(a:O l)(o:Obj)(hs:J s O W):J s O (W.putObj l o):=
 h s O W O _ hs (by simp) rfl rfl rfl (λb hb _=>World.putObj_heap_other (λe=>hb (e▸a))) (λb hb=>.inl hb)
theorem Ix{f:FuncId}{g:Operand}{ps:Array Tmp}{assign body:Code}{Q:QT}{a:Act}{w:World}
 (h:∃(l:Nat) (m:List Deferred) (B:World) (d:Deferred) (s:World) (gf:FuncId) (args:Array Value) (E:World),
   (Instr.enterLoop f a.tmps ps assign body none).run P w=.ok (l,m) B/\
   (resolve a.eval (rangeCall g l) 0).run P B=.ok d s/\
   (invoke d.target d.args).run P s=.ok (.enter gf args) E/\
   CallsIn Fence.wide (n - 1) P gf args E (rangePost Fence.wide n P l Q {a with defers:=m++a.defers})):
  Fv f P (Code.rangeFunc g ps assign body) Q a w:=by
 intro b k cs t hb
 obtain ⟨l,m,B,d,s,gf,args,E,F,u,y,O,r⟩:=h
 rw[<-t,<-hb] at F
 have j:=stepR_rangeFunc (P:=P) (b:=b) (a:=a) (k:=k) (cs:=cs) (w:=w) F u y
 obtain ⟨e,N,fr,A,i,L,o⟩:=r (b.atR {a with defers:=m++a.defers} (.inRangeFunc l::k)::cs) (room_wide _)
 cases e with
 |outgrown=>
  obtain ⟨M,J,C⟩:=A
  exact ⟨.outgrown,M,J,C,.inr (Outgrown.of_steps (.one j) i)⟩
 |returned v=>
  obtain ⟨q,G,z,H⟩:=A
  have p:StepsIn (Machine.fenced P Fence.wide) P (lone (b.atR a (.code (.rangeFunc g ps assign body)::k)) cs w) (lone (b.atR {a with defers:=m++a.defers} ((q.map Item.code).toList++k)) cs G):=by
   refine .head (qk _ _) j (xm i (.head (qk _ _) ?_ (.one (qk _ _) (stepR_endRangeFunc z))))
   rw[<-finish_atR_inRangeFunc l v];exact step_leave_returned o
  cases q with
  |none=>exact ⟨.normal,_,G,H,p⟩
  |some c=>
   obtain ⟨I,D,K,C,x⟩:=H b k cs t trivial (room_wide _)
   exact ⟨I,D,K,C,.of_steps p x⟩
 |panicked chain=>
  refine ⟨.panic chain,_,N,A,.inRangeFunc l::k,.head (qk _ _) j (xm i (.one (qk _ _) ?_))⟩
  rw[<-Frame.raise_atR];exact step_leave_panicked o
theorem CW{f:FuncId}{fn:Func}(hf:P.funcs[f]?=some fn){g:Operand}{ps:Array Tmp}{assign body:Code}{Q:QT}{a:Act}{w:World}
 {gf:Nat}{lb:Array Value}(hg:a.eval g=.func (.func gf) #[] lb)(eg:∀args w,(callFunc gf args).run P w=.ok (.enter gf args) w)
 {Hd:World->Prop}{xs:List (Array Value)}{own:Option (List PanicEntry)}(a8:Vm Fence.wide (n - 1) P gf lb Hd xs own)(ai:∀x∈xs,x.size=ps.size)
 (J:Nat->NP->World->Prop)(Jx:Code->NP->World->Prop)(Jp:List PanicEntry->NP->World->Prop)(A:Nat->Act->NP->World->Prop)
 (hJ:Cv J)(H:∀c,Cv (λ(_:Unit)=>Jx c))(ag:∀y,Cv (λ(_:Unit)=>Jp y))(hA:∀a,Cv (λk=>A k a))(ad:∀k O W,J k O W->Hd W)(a2:∀c O W,Jx c O W->Hd W)(a6:∀y,own=some y->∀O W,J xs.length O W->Jp y O W)
 (h0:J 0 (λ_=>False) w)
 (G:∀k (hk:k < xs.length) O W l,J k O W->O l->(∃r,W.heap[l]?=some (.loop r))->(∀b,O b->b < W.heap.size)->assign.wpIn (Fence.wide.inRound l) (n - 1 - 1) P (Exit.then (λV W₁=>B7 O W W₁/\A k V O W₁) (λ_ _ _=>False))
   {tmps:=(ps.zip xs[k]).foldl (λt (p,v)=>t.setIfInBounds p v) a.tmps,defers:=[]} W)
 (X:∀k (_:k < xs.length) O W l V,O l->(∃r,W.heap[l]?=some (.loop r))->(∀b,O b->b < W.heap.size)->A k V O W->body.wpIn (Fence.wide.inRound l) (n - 1 - 1) P (Yp O J Jx Jp k W) V W)
 (T:own=none->∀D O W,w.heap.size<=D->O D->J xs.length O W->W.heap[D]?=some (.deferred (some []))->Q .normal {a with defers:={target:=.collected D,args:=#[]}::a.defers} W)
 (S:∀D c O W,w.heap.size<=D->O D->Jx c O W->W.heap[D]?=some (.deferred (some []))->c.wpIn Fence.wide n P Q {a with defers:={target:=.collected D,args:=#[]}::a.defers} W)
 (N:∀D y O W,w.heap.size<=D->O D->Jp y O W->W.heap[D]?=some (.deferred (some []))->Q (.panic y) {a with defers:={target:=.collected D,args:=#[]}::a.defers} W):
  Fv f P (Code.rangeFunc g ps assign body) Q a w:=by
 refine Ix (n:=n) ?_
 obtain ⟨j,o⟩:∃j:LoopState->Option Code->Loop,j=λst pe=>{state:=st,pending:=pe,fn:=f,tmps:=a.tmps,params:=ps,assign,body,defers:=w.heap.size}:=⟨_,rfl⟩
 obtain ⟨z,F⟩:∃z,(w.alloc (.deferred (some []))).alloc (.loop (j .ready none))=z:=⟨_,rfl⟩
 have al:z.heap.size=w.heap.size+2:=by rw[<-F];simp
 have af:z.heap[w.heap.size+1]?=some (.loop (j .ready none)):=by
  rw[<-F];have:=World.alloc_heap_new (w.alloc (.deferred (some []))) (.loop (j .ready none));rwa [ze] at this
 have ah:z.heap[w.heap.size]?=some (.deferred (some [])):=by
  rw[<-F];exact (yp _ _ _ (by simp)).trans (World.alloc_heap_new w _)
 have aj:J 0 (λb=>False\/b=w.heap.size\/b=w.heap.size+1) z:=by
  rw[<-F]
  refine hJ 0 _ w _ _ h0 (by simp;omega) rfl rfl rfl (λb _ hb=>?_) (λb hb=>.inr ?_)
  ·rw[yp _ _ _ (by simp;omega),yp _ _ _ hb]
  rcases hb with hb|rfl|rfl
  ·exact hb.elim
  ·exact yi _
  omega
 refine ⟨w.heap.size+1,[{target:=.collected w.heap.size,args:=#[]}],z,{target:=.fn (.func gf) lb,args:=#[.func (.yield (w.heap.size+1)) #[] #[]]},z,gf,
  #[.func (.yield (w.heap.size+1)) #[] #[]]++lb,z,?_,?_,?_,?_⟩
 ·rw[<-F,o];exact run_enterLoop_outer _ _ _ _ _
 ·simp only[resolve,hg]
  simp[go_sem]
 ·simp[invoke,go_sem,eg]
 generalize hD:w.heap.size=D at*
 generalize hl:D+1=l at*
 have ak:D < l:=by omega
 refine (a8 l
  (λk O W=>J k (λb=>O b\/b=D\/b=l) W/\W.heap[l]?=some (.loop (j .ready none))/\W.heap[D]?=some (.deferred (some []))/\(∀b,O b->z.heap.size<=b)/\z.heap.size<=W.heap.size)
  (λO W=>∃c,Jx c (λb=>O b\/b=D\/b=l) W/\W.heap[l]?=some (.loop (j .done (some c)))/\W.heap[D]?=some (.deferred (some []))/\(∀b,O b->z.heap.size<=b)/\z.heap.size<=W.heap.size)
  (λy O W=>Jp y (λb=>O b\/b=D\/b=l) W/\W.heap[D]?=some (.deferred (some []))/\(∀b,O b->z.heap.size<=b)/\z.heap.size<=W.heap.size) z ?_ ?_ ?_ ?_ ?_ ?_ ?_ ⟨aj,af,ah,λb hb=>hb.elim,yi _⟩).mono ?_
 ·rintro k O W O' W' ⟨h1,h2,h3,q,Y⟩ Z U ht hu i R
  refine ⟨hJ k _ W _ W' h1 Z U ht hu (λb hb B=>i b (λh=>hb (.inl h)) B) (λb hb=>?_),?_,?_,λb hb=>?_,by omega⟩
  ·rcases hb with hb|hb
   ·rcases R b hb with h|h
    ·exact .inl (.inl h)
    exact .inr h
   exact .inl (.inr hb)
  ·exact (i l (λh=>by have:=q l h;omega) (yd.1 h2).1).trans h2
  ·exact (i D (λh=>by have:=q D h;omega) (yd.1 h3).1).trans h3
  rcases R b hb with h|h
  ·exact q b h
  omega
 ·rintro _ O W O' W' ⟨c,h1,h2,h3,q,Y⟩ Z U ht hu i R
  refine ⟨c,H c () _ W _ W' h1 Z U ht hu (λb hb B=>i b (λh=>hb (.inl h)) B) (λb hb=>?_),?_,?_,λb hb=>?_,by omega⟩
  ·rcases hb with hb|hb
   ·rcases R b hb with h|h
    ·exact .inl (.inl h)
    exact .inr h
   exact .inl (.inr hb)
  ·exact (i l (λh=>by have:=q l h;omega) (yd.1 h2).1).trans h2
  ·exact (i D (λh=>by have:=q D h;omega) (yd.1 h3).1).trans h3
  rcases R b hb with h|h
  ·exact q b h
  omega
 ·rintro y _ O W O' W' ⟨h1,h3,q,Y⟩ Z U ht hu i R
  refine ⟨ag y () _ W _ W' h1 Z U ht hu (λb hb B=>i b (λh=>hb (.inl h)) B) (λb hb=>?_),?_,λb hb=>?_,by omega⟩
  ·rcases hb with hb|hb
   ·rcases R b hb with h|h
    ·exact .inl (.inl h)
    exact .inr h
   exact .inl (.inr hb)
  ·exact (i D (λh=>by have:=q D h;omega) (yd.1 h3).1).trans h3
  rcases R b hb with h|h
  ·exact q b h
  omega
 ·exact λk O W h=>ad k _ W h.1
 ·exact λO W h=>h.elim λc h=>a2 c _ W h.1
 ·exact λy he O W h=>⟨a6 y he _ W h.1,h.2.2.1,h.2.2.2.1,h.2.2.2.2⟩
 ·
  rintro k hk O W ⟨h1,h2,h3,q,Y⟩ Z ae
  have hy:=run_yield (P:=P) (args:=xs[k]) h2 (by rw[o];exact ai _ (yR hk))
  rw[o] at hy
  have ab:∀b,(O b\/b=D\/b=l)->b < W.heap.size:=λb hb=>by
   rcases hb with hb|hb|hb
   ·exact (ae b hb).2
   ·rw[hb];exact (yd.1 h3).1
   rw[hb];exact (yd.1 h2).1
  refine ⟨f,_,assign,body,hy,GD hf trivial (wpIn_mono (G k hk _ W l h1 (.inr (.inr rfl)) ⟨_,h2⟩ ab) ?_)⟩
  clear hy
  rintro e V Wa E
  cases e with
  |normal=>
   obtain ⟨hs,ac⟩:=E
   have I:=(hs.2 l (.inr (.inr rfl))).trans h2
   have M:=(hs.2 D (.inr (.inl rfl))).trans h3
   have B:=(yd.1 I).1
   refine ⟨_,run_beginRound I (by rw[o]),?_⟩
   have aa:(Wa.putObj l (.loop {j .ready none with state:=.busy})).heap[l]?=some (.loop {j .ready none with state:=.busy}):=World.putObj_heap_same B
   have a7:(Wa.putObj l (.loop {j .ready none with state:=.busy})).heap[D]?=some (.deferred (some [])):=(World.putObj_heap_other (by omega)).trans M
   refine wpIn_mono (X k hk _ _ l V (.inr (.inr rfl)) ⟨_,aa⟩ (λb hb=>by have:=ab b hb;have:=hs.1;simp;omega) ((hA V).put (.inr (.inr rfl)) _ ac)) ?_
   have K:∀(d:Option Code) (C:World),B7 (λb=>O b\/b=D\/b=l) (Wa.putObj l (.loop {j .ready none with state:=.busy})) C->
     (Instr.endRound l d).run P C=.ok (.bool d.isNone) (C.putObj l (.loop (j (if d.isNone then .ready else .done) d)))/\
     (C.putObj l (.loop (j (if d.isNone then .ready else .done) d))).heap[l]?=some (.loop (j (if d.isNone then .ready else .done) d))/\
     (C.putObj l (.loop (j (if d.isNone then .ready else .done) d))).heap[D]?=some (.deferred (some []))/\
     z.heap.size<=(C.putObj l (.loop (j (if d.isNone then .ready else .done) d))).heap.size/\
     B7 O W (C.putObj l (.loop (j (if d.isNone then .ready else .done) d))):=λd C m=>by
    have a1:=(m.2 l (.inr (.inr rfl))).trans aa
    have hr:=run_endRound (P:=P) d a1
    rw[o] at hr |-
    have z1:=hs.1
    have z3:Wa.heap.size<=C.heap.size:=by have:=m.1;simpa using this
    refine ⟨hr,World.putObj_heap_same (yd.1 a1).1,(World.putObj_heap_other (by omega)).trans ((m.2 D (.inr (.inl rfl))).trans a7),by simp;omega,by simp;omega,λb hb=>?_⟩
    have L:b≠l:=λe=>by have:=q b hb;subst e;omega
    rw[World.putObj_heap_other L,m.2 b (.inl hb),World.putObj_heap_other L,hs.2 b (.inl hb)]
   rintro e a3 C E
   cases e with
   |normal=>
    obtain ⟨m,u⟩:=E
    obtain ⟨hr,g1,I,M,g4⟩:=K none C m
    exact ⟨_,_,hr,.inl ⟨rfl,⟨hJ.put (.inr (.inr rfl)) _ u,g1,I,q,M⟩,g4⟩⟩
   |ret=>
    obtain ⟨m,u⟩:=E
    obtain ⟨hr,g1,I,M,g4⟩:=K (some .ret) C m
    exact ⟨_,_,hr,.inr (.inl ⟨rfl,⟨.ret,(H .ret).put (s:=()) (.inr (.inr rfl)) _ u,g1,I,q,M⟩,g4⟩)⟩
   |exit id=>
    obtain ⟨m,u⟩:=E
    obtain ⟨hr,g1,I,M,g4⟩:=K (some (.exit id)) C m
    exact ⟨_,_,hr,.inr (.inl ⟨rfl,⟨.exit id,(H (.exit id)).put (s:=()) (.inr (.inr rfl)) _ u,g1,I,q,M⟩,g4⟩)⟩
   |goto t=>
    obtain ⟨m,u⟩:=E
    obtain ⟨hr,g1,I,M,g4⟩:=K (some (.goto t)) C m
    exact ⟨_,_,hr,.inr (.inl ⟨rfl,⟨.goto t,(H (.goto t)).put (s:=()) (.inr (.inr rfl)) _ u,g1,I,q,M⟩,g4⟩)⟩
   |panic y=>
    obtain ⟨hd,m,u⟩:=E
    have z1:=hs.1
    have z3:Wa.heap.size<=C.heap.size:=by have:=m.1;simpa using this
    refine ⟨hd,.inr (.inr ⟨y,rfl,⟨u,(m.2 D (.inr (.inl rfl))).trans a7,q,by omega⟩,by omega,λb hb=>?_⟩)⟩
    have L:b≠l:=λe=>by have:=q b hb;subst e;omega
    rw[m.2 b (.inl hb),World.putObj_heap_other L,hs.2 b (.inl hb)]
   |outgrown=>exact E.elim
  |exit id=>exact E.elim
  |goto t=>exact E.elim
  |ret=>exact E.elim
  |panic y=>exact E.elim
  |outgrown=>exact E.elim
 rintro e W2 (⟨⟨v,rfl⟩,(⟨U,O,h1,h2,h3,q,Y⟩|⟨O,c,h1,h2,h3,q,Y⟩)⟩|⟨y,rfl,O,h1,h2,q,Y⟩)
 ·exact ⟨none,_,by have:=run_endLoop (P:=P) h2 (by rw[o];simp);rw[o] at this;exact this,T U D _ _ (yi _) (.inr (.inl rfl)) (hJ.put (.inr (.inr rfl)) _ h1) ((World.putObj_heap_other (by omega)).trans h3)⟩
 ·exact ⟨some c,_,by have:=run_endLoop (P:=P) h2 (by rw[o];simp);rw[o] at this;exact this,S D c _ _ (yi _) (.inr (.inl rfl)) ((H c).put (s:=()) (.inr (.inr rfl)) _ h1) ((World.putObj_heap_other (by omega)).trans h3)⟩
 exact N D y _ W2 (yi _) (.inr (.inl rfl)) h1 h2
theorem Bt{f:FuncId}{fn:Func}{c:Code}{args:Array Value}{w:World}{R:Ending->World->Prop}(hf:P.funcs[f]?=some fn)(hb:fn.body=some c)
 (h:Fv f P c (bodyPostM Fence.wide n P fn R) {tmps:=args++Array.replicate (fn.ntmps - args.size) undef,defers:=[]} w):Calls P f args w R:=by
 refine (zi (n:=n)).1 ⟨trivial,λcs hr=>?_⟩
 let b:Frame:={(default:Frame) with fn:=f,kind:=.normal,roundOf:=none}
 have k:Frame.enter P f args .normal=
   b.atR {tmps:=args++Array.replicate (fn.ntmps - args.size) undef,defers:=[]} [.code c]:=by
  simp[Frame.enter,Frame.atR,hf,hb,b]
 obtain ⟨e,o,w',p,a⟩:=h b [] cs rfl rfl
 rw[<-k] at a
 cases e with
 |normal=>
  obtain ⟨r,d,i,q,hs,j,s⟩:=leaves_stepsInM o.defers .returning w' {b.atR o [] with mode:=.returning} cs rfl rfl rfl hf rfl trivial hr p
  exact ⟨r,d,i,q,ComesIn.of_steps (xm a (.one (qk _ _) (stepR_end rfl))) hs,j,s⟩
 |ret=>
  obtain ⟨g,m⟩:=a.1 rfl
  obtain ⟨r,d,i,q,hs,j,s⟩:=leaves_stepsInM o.defers .returning w' {b.atR o g with mode:=.returning} cs rfl rfl rfl hf rfl trivial hr p
  exact ⟨r,d,i,q,ComesIn.of_steps m hs,j,s⟩
 |panic chain=>
  obtain ⟨g,m⟩:=a
  obtain ⟨r,d,i,q,hs,j,s⟩:=leaves_stepsInM o.defers (.panicking chain) w' {b.atR o g with mode:=.panicking chain} cs rfl rfl rfl hf rfl trivial hr p
  exact ⟨r,d,i,q,ComesIn.of_steps m hs,j,s⟩
 |exit id=>exact p.elim
 |goto l=>exact p.elim
 |outgrown=>exact ⟨.outgrown,w',b,p,a.resolve_left (by simp[b]),rfl,trivial⟩
end Go.Proofs.YtbdfinegbjdblaaGreatDoor
namespace Go.Proofs.YtbdfinegbjdblaaGreatDoor
open Go.RowKit Tryz
inductive Ex where
 |mk (op n u:Int) (rn:ByteArray) (ri:Int) (args:List Ex)
namespace Ex
open Tryz
def op:Ex->Int|.mk o _ _ _ _ _=>o
def n:Ex->Int|.mk _ n _ _ _ _=>n
def u:Ex->Int|.mk _ _ u _ _ _=>u
def rn:Ex->ByteArray|.mk _ _ _ r _ _=>r
def ri:Ex->Int|.mk _ _ _ _ i _=>i
def args:Ex->List Ex|.mk _ _ _ _ _ l=>l
end Ex
mutual
def Bm(N:NP)(w:World):Ex->LV->Prop
 |.mk op n u rn ri args,cs=>∃a cap,cs=[.int .i64 op,.int .i64 n,.int .i64 u,.string rn,.int .i64 ri,.slice a args.length cap]/\args.length<=140737488355328/\rn.size<=maxLen/\Ez N w a 0 args
def Ez(N:NP)(w:World)(a:Option Addr):Nat->List Ex->Prop
 |_,[]=>True
 |i,e::r=>(∃b o cs,a=some ⟨b,o,none⟩/\N b/\w.rangeAt b (o+i*6) cs/\Bm N w e cs)/\Ez N w a (i+1) r
end
def Vn(N:NP)(w:World)(v:Value)(l:List Ex):Prop:=∃a cap,v=.slice a l.length cap/\l.length<=140737488355328/\Ez N w a 0 l
theorem FP{N:NP}{w:World}{a:Option Addr}:∀ {l:List Ex} {k:Nat},Ez N w a k l->∀i (h:i < l.length),∃b o cs,a=some ⟨b,o,none⟩/\N b/\w.rangeAt b (o+(k+i)*6) cs/\Bm N w l[i] cs
 |[],_,_,i,h=>by simp at h
 |e::r,k,hr,i,h=>by
  rw[Ez] at hr
  cases i with
  |zero=>exact hr.1
  |succ i=>
   obtain ⟨b,o,cs,h1,h2,h3,c⟩:=FP hr.2 i (by simpa using h)
   exact ⟨b,o,cs,h1,h2,by rw[show k+(i+1)=k+1+i by omega];exact h3,by simpa using c⟩
theorem A8{w w':World}{b o:Nat}{cs:LV}(h:w.rangeAt b o cs)(hb:w'.heap[b]?=w.heap[b]?):w'.rangeAt b o cs:=λj v a=>by
 have:=h j v a
 unfold World.cell? at this |-
 rw[hb];exact this
mutual
theorem Bm.same{N N':NP}{w w':World}(c:∀b,N b->N' b)(hb:∀b,N b->w'.heap[b]?=w.heap[b]?):∀ {e:Ex} {cs:LV},Bm N w e cs->Bm N' w' e cs
 |.mk _ _ _ _ _ args,_,h=>by
  rw[Bm] at h |-
  obtain ⟨a,cap,h1,h2,h3,d⟩:=h
  exact ⟨a,cap,h1,h2,h3,Ez.same c hb d⟩
theorem Ez.same{N N':NP}{w w':World}{a:Option Addr}(c:∀b,N b->N' b)(hb:∀b,N b->w'.heap[b]?=w.heap[b]?):∀ {l:List Ex} {k:Nat},Ez N w a k l->Ez N' w' a k l
 |[],_,h=>by rw[Ez];trivial
 |e::r,k,h=>by
  rw[Ez] at h |-
  obtain ⟨⟨b,o,cs,h1,h2,h3,f⟩,d⟩:=h
  exact ⟨⟨b,o,cs,h1,c b h2,A8 h3 (hb b h2),Bm.same c hb f⟩,Ez.same c hb d⟩
end
theorem Vn.same{N N':NP}{w w':World}{v:Value}{l:List Ex}(c:∀b,N b->N' b)(hb:∀b,N b->w'.heap[b]?=w.heap[b]?)(h:Vn N w v l):Vn N' w' v l:=by
 obtain ⟨a,cap,h1,h2,h3⟩:=h
 exact ⟨a,cap,h1,h2,Ez.same c hb h3⟩
mutual
def BB:Ex->Nat
 |.mk _ _ _ _ _ args=>BX args
def BX:List Ex->Nat
 |[]=>0
 |e::r=>max (1+BB e) (BX r)
end
mutual
theorem LX{P:Ex->Prop}(h:∀op n u rn ri args,(∀e∈args,P e)->P (.mk op n u rn ri args)):∀e,P e
 |.mk op n u rn ri args=>h op n u rn ri args (T3 h args)
theorem T3{P:Ex->Prop}(h:∀op n u rn ri args,(∀e∈args,P e)->P (.mk op n u rn ri args)):∀l:List Ex,∀e∈l,P e
 |[]=>λ_ a=>by simp at a
 |x::r=>λe a=>(yq.1 a).elim (λq=>q▸LX h x) (T3 h r e)
end
theorem L3:∀(l:List Ex) (e:Ex),BX (l++[e])=max (BX l) (1+BB e)
 |[],e=>by simp[BX]
 |x::r,e=>by
  rw[yQ,BX,BX,L3 r e,Nat.max_assoc]
theorem L4{l:List Ex}{i:Nat}(h:i < l.length):BX (l.take (i+1))=max (BX (l.take i)) (1+BB l[i]):=by
 rw[yP h,L3]
theorem Kz:∀(l:List Ex) (i:Nat),BX (l.take i)<=BX l
 |[],i=>by simp
 |x::r,0=>by simp[BX]
 |x::r,i+1=>by
  rw[List.take_succ_cons,BX,BX]
  have:=Kz r i
  omega
theorem RI{l:List Ex}{i:Nat}(h:i < l.length):1+BB l[i]<=BX l:=by
 have h1:=L4 h
 have h2:=Kz l (i+1)
 omega
theorem Bm.cells{N:NP}{w:World}{e:Ex}{cs:LV}(h:Bm N w e cs):∃a cap,cs=[.int .i64 e.op,.int .i64 e.n,.int .i64 e.u,.string e.rn,.int .i64 e.ri,.slice a e.args.length cap]/\e.args.length<=140737488355328/\e.rn.size<=maxLen/\Ez N w a 0 e.args:=by
 cases e
 rw[Bm] at h
 exact h
theorem Bm.mk'{N:NP}{w:World}{e:Ex}{a:Option Addr}{cap:Nat}(h1:e.args.length<=140737488355328)(h2:e.rn.size<=maxLen)(h3:Ez N w a 0 e.args):
  Bm N w e [.int .i64 e.op,.int .i64 e.n,.int .i64 e.u,.string e.rn,.int .i64 e.ri,.slice a e.args.length cap]:=by
 cases e
 rw[Bm]
 exact ⟨a,cap,rfl,h1,h2,h3⟩
theorem BP{w:World}{b o:Nat}{x0 d a c e f:Value}(h:w.rangeAt b o [x0,d,a,c,e,f]):w.cell? ⟨b,o,none⟩=some x0/\w.cell? ⟨b,o+1,none⟩=some d/\w.cell? ⟨b,o+2,none⟩=some a/\w.cell? ⟨b,o+3,none⟩=some c/\w.cell? ⟨b,o+4,none⟩=some e/\w.cell? ⟨b,o+5,none⟩=some f:=
 ⟨h 0 _ rfl,h 1 _ rfl,h 2 _ rfl,h 3 _ rfl,h 4 _ rfl,h 5 _ rfl⟩
theorem FQ{N:NP}{B:Nat}{w w':World}(hN:∀b,N b->b < B)(hb:Below B w w'):∀b,N b->w'.heap[b]?=w.heap[b]?:=λb h=>hb.block b (hN b h)
theorem Iy(n:Int):IntKind.u64.wrap n=n % 18446744073709551616:=by
 unfold IntKind.wrap;simp (decide:=true) [IntKind.signed,IntKind.bits]
theorem Gs(n:Int)(h1: -4611686018427387904<=n)(h2:n<=4611686018427387904)(w:World):Calls prog 140 #[.int .i64 n] w λe w'=>e=.returned (.int .u64 (n.natAbs:Int))/\w'=w:=by
 have b:n < 0->IntKind.u64.wrap (-IntKind.u64.wrap n)=(n.natAbs:Int):=by
  intro a;rw[Iy,Iy];omega
 go_enter func140,ntmps140
 by_cases a:n < 0
 ·have c:=b a
  go_wp2
  go_ret
  exact ⟨rfl,rfl⟩
 clear b
 have hd:decide (n < 0)=false:=by simpa using a
 go_wp2
 go_ret
 exact ⟨yN (λz=>Ending.returned (Value.int IntKind.u64 z)) (show n=(n.natAbs:Int) by omega),rfl⟩
end Go.Proofs.YtbdfinegbjdblaaGreatDoor
namespace Go.Proofs.YtbdfinegbjdblaaGreatDoor
open Go.RowKit Tryz
variable{F:Fence}{n:Nat}{P:Program}
def Zo(F:Fence)(n:Nat)(P:Program)(g:Nat)(lb:Array Value)(K:NP)(c:World)(Hd:World->Prop)(xs:List (Array Value))(own:Option (List PanicEntry)):Prop:=
 ∀(l:Nat) (J:Nat->NP->World->Prop) (Jx:NP->World->Prop) (Jp:List PanicEntry->NP->World->Prop) (W:World),
  Cv J->Cv (λ(_:Unit)=>Jx)->(∀a,Cv (λ(_:Unit)=>Jp a))->(∀k O W,J k O W->Hd W)->(∀O W,Jx O W->Hd W)->(∀a,own=some a->∀O W,J xs.length O W->Jp a O W)->
  (∀k (d:k < xs.length) O W1,J k O W1->W.heap.size<=W1.heap.size->(∀b,O b->(K b\/W.heap.size<=b)/\b < W1.heap.size)->YieldAt F (n - 1) P l xs[k] W1 λe W'=>
   (e=.returned (.bool true)/\J (k+1) O W'/\B7 O W1 W')\/(e=.returned (.bool false)/\Jx O W'/\B7 O W1 W')\/(∃a,e=.panicked a/\Jp a O W'/\B7 O W1 W'))->
  (∀b,K b->b < W.heap.size)->B7 K c W->J 0 K W->
  CallsIn F n P g (#[.func (.yield l) #[] #[]]++lb) W λe W'=>
   ((∃v,e=.returned v)/\((own=none/\∃O,J xs.length O W')\/∃O,Jx O W'))\/∃a,e=.panicked a/\∃O,Jp a O W'
theorem PK{f:FuncId}{fn:Func}(hf:P.funcs[f]?=some fn){g:Operand}{ps:Array Tmp}{assign body:Code}{Q:QT}{a:Act}{w:World}
 {gf:Nat}{lb:Array Value}(hg:a.eval g=.func (.func gf) #[] lb)(eg:∀args w,(callFunc gf args).run P w=.ok (.enter gf args) w)
 {Hd:World->Prop}{xs:List (Array Value)}{own:Option (List PanicEntry)}{K:NP}(hK:∀b,K b->b < w.heap.size)(a8:Zo Fence.wide (n - 1) P gf lb K w Hd xs own)(aj:∀x∈xs,x.size=ps.size)
 (J:Nat->NP->World->Prop)(Jx:Code->NP->World->Prop)(Jp:List PanicEntry->NP->World->Prop)(A:Nat->Act->NP->World->Prop)
 (hJ:Cv J)(I:∀c,Cv (λ(_:Unit)=>Jx c))(ah:∀z,Cv (λ(_:Unit)=>Jp z))(hA:∀a,Cv (λk=>A k a))(ad:∀k O W,J k O W->Hd W)(a2:∀c O W,Jx c O W->Hd W)(a6:∀z,own=some z->∀O W,J xs.length O W->Jp z O W)
 (h0:J 0 K w)
 (H:∀k (hk:k < xs.length) O W l,J k O W->O l->(∃r,W.heap[l]?=some (.loop r))->(∀b,O b->b < W.heap.size)->assign.wpIn (Fence.wide.inRound l) (n - 1 - 1) P (Exit.then (λY W₁=>B7 O W W₁/\A k Y O W₁) (λ_ _ _=>False))
   {tmps:=(ps.zip xs[k]).foldl (λt (p,v)=>t.setIfInBounds p v) a.tmps,defers:=[]} W)
 (Z:∀k (_:k < xs.length) O W l Y,O l->(∃r,W.heap[l]?=some (.loop r))->(∀b,O b->b < W.heap.size)->A k Y O W->body.wpIn (Fence.wide.inRound l) (n - 1 - 1) P (Yp O J Jx Jp k W) Y W)
 (V:own=none->∀D O W,w.heap.size<=D->O D->J xs.length O W->W.heap[D]?=some (.deferred (some []))->Q .normal {a with defers:={target:=.collected D,args:=#[]}::a.defers} W)
 (U:∀D c O W,w.heap.size<=D->O D->Jx c O W->W.heap[D]?=some (.deferred (some []))->c.wpIn Fence.wide n P Q {a with defers:={target:=.collected D,args:=#[]}::a.defers} W)
 (S:∀D z O W,w.heap.size<=D->O D->Jp z O W->W.heap[D]?=some (.deferred (some []))->Q (.panic z) {a with defers:={target:=.collected D,args:=#[]}::a.defers} W):
  Fv f P (Code.rangeFunc g ps assign body) Q a w:=by
 refine Ix (n:=n) ?_
 obtain ⟨j,o⟩:∃j:LoopState->Option Code->Loop,j=λst pe=>{state:=st,pending:=pe,fn:=f,tmps:=a.tmps,params:=ps,assign,body,defers:=w.heap.size}:=⟨_,rfl⟩
 obtain ⟨y,F⟩:∃y,(w.alloc (.deferred (some []))).alloc (.loop (j .ready none))=y:=⟨_,rfl⟩
 have am:y.heap.size=w.heap.size+2:=by rw[<-F];simp
 have ag:y.heap[w.heap.size+1]?=some (.loop (j .ready none)):=by
  rw[<-F];have:=World.alloc_heap_new (w.alloc (.deferred (some []))) (.loop (j .ready none));rwa [ze] at this
 have ai:y.heap[w.heap.size]?=some (.deferred (some [])):=by
  rw[<-F];exact (yp _ _ _ (by simp)).trans (World.alloc_heap_new w _)
 have ak:J 0 (λb=>K b\/b=w.heap.size\/b=w.heap.size+1) y:=by
  rw[<-F]
  refine hJ 0 _ w _ _ h0 (by simp;omega) rfl rfl rfl (λb _ hb=>?_) (λb hb=>?_)
  ·rw[yp _ _ _ (by simp;omega),yp _ _ _ hb]
  rcases hb with hb|rfl|rfl
  ·exact .inl hb
  ·exact .inr (yi _)
  exact .inr (by omega)
 have af:B7 K w y:=by
  rw[<-F]
  exact ⟨by simp;omega,λb hb=>by rw[yp _ _ _ (by have:=hK b hb;simp;omega),yp _ _ _ (hK b hb)]⟩
 refine ⟨w.heap.size+1,[{target:=.collected w.heap.size,args:=#[]}],y,{target:=.fn (.func gf) lb,args:=#[.func (.yield (w.heap.size+1)) #[] #[]]},y,gf,
  #[.func (.yield (w.heap.size+1)) #[] #[]]++lb,y,?_,?_,?_,?_⟩
 ·rw[<-F,o];exact run_enterLoop_outer _ _ _ _ _
 ·simp only[resolve,hg]
  simp[go_sem]
 ·simp[invoke,go_sem,eg]
 generalize hD:w.heap.size=D at*
 generalize hl:D+1=l at*
 have al:D < l:=by omega
 have B:∀b,K b->b < D:=hK
 refine (a8 l
  (λk O W=>J k (λb=>O b\/b=D\/b=l) W/\W.heap[l]?=some (.loop (j .ready none))/\W.heap[D]?=some (.deferred (some []))/\(∀b,O b->K b\/y.heap.size<=b)/\y.heap.size<=W.heap.size)
  (λO W=>∃c,Jx c (λb=>O b\/b=D\/b=l) W/\W.heap[l]?=some (.loop (j .done (some c)))/\W.heap[D]?=some (.deferred (some []))/\(∀b,O b->K b\/y.heap.size<=b)/\y.heap.size<=W.heap.size)
  (λz O W=>Jp z (λb=>O b\/b=D\/b=l) W/\W.heap[D]?=some (.deferred (some []))/\(∀b,O b->K b\/y.heap.size<=b)/\y.heap.size<=W.heap.size) y ?_ ?_ ?_ ?_ ?_ ?_ ?_ (λb hb=>by have:=B b hb;omega) af ⟨ak,ag,ai,λb hb=>.inl hb,yi _⟩).mono ?_
 ·rintro k O W O' W' ⟨h1,h2,h3,q,h5⟩ hz X ht hu i T
  refine ⟨hJ k _ W _ W' h1 hz X ht hu (λb hb C=>i b (λh=>hb (.inl h)) C) (λb hb=>?_),?_,?_,λb hb=>?_,by omega⟩
  ·rcases hb with hb|hb
   ·rcases T b hb with h|h
    ·exact .inl (.inl h)
    exact .inr h
   exact .inl (.inr hb)
  ·exact (i l (λh=>by have:=q l h;have:=B l;grind) (yd.1 h2).1).trans h2
  ·exact (i D (λh=>by have:=q D h;have:=B D;grind) (yd.1 h3).1).trans h3
  rcases T b hb with h|h
  ·exact q b h
  exact .inr (by omega)
 ·rintro _ O W O' W' ⟨c,h1,h2,h3,q,h5⟩ hz X ht hu i T
  refine ⟨c,I c () _ W _ W' h1 hz X ht hu (λb hb C=>i b (λh=>hb (.inl h)) C) (λb hb=>?_),?_,?_,λb hb=>?_,by omega⟩
  ·rcases hb with hb|hb
   ·rcases T b hb with h|h
    ·exact .inl (.inl h)
    exact .inr h
   exact .inl (.inr hb)
  ·exact (i l (λh=>by have:=q l h;have:=B l;grind) (yd.1 h2).1).trans h2
  ·exact (i D (λh=>by have:=q D h;have:=B D;grind) (yd.1 h3).1).trans h3
  rcases T b hb with h|h
  ·exact q b h
  exact .inr (by omega)
 ·rintro z _ O W O' W' ⟨h1,h3,q,h5⟩ hz X ht hu i T
  refine ⟨ah z () _ W _ W' h1 hz X ht hu (λb hb C=>i b (λh=>hb (.inl h)) C) (λb hb=>?_),?_,λb hb=>?_,by omega⟩
  ·rcases hb with hb|hb
   ·rcases T b hb with h|h
    ·exact .inl (.inl h)
    exact .inr h
   exact .inl (.inr hb)
  ·exact (i D (λh=>by have:=q D h;have:=B D;grind) (yd.1 h3).1).trans h3
  rcases T b hb with h|h
  ·exact q b h
  exact .inr (by omega)
 ·exact λk O W h=>ad k _ W h.1
 ·exact λO W h=>h.elim λc h=>a2 c _ W h.1
 ·exact λz he O W h=>⟨a6 z he _ W h.1,h.2.2.1,h.2.2.2.1,h.2.2.2.2⟩
 ·
  rintro k hk O W ⟨h1,h2,h3,q,h5⟩ hz ae
  have hy:=run_yield (P:=P) (args:=xs[k]) h2 (by rw[o];exact aj _ (yR hk))
  rw[o] at hy
  have ab:∀b,(O b\/b=D\/b=l)->b < W.heap.size:=λb hb=>by
   rcases hb with hb|hb|hb
   ·exact (ae b hb).2
   ·rw[hb];exact (yd.1 h3).1
   rw[hb];exact (yd.1 h2).1
  refine ⟨f,_,assign,body,hy,GD hf trivial (wpIn_mono (H k hk _ W l h1 (.inr (.inr rfl)) ⟨_,h2⟩ ab) ?_)⟩
  clear hy
  rintro e Y Wa G
  cases e with
  |normal=>
   obtain ⟨hs,ac⟩:=G
   have L:=(hs.2 l (.inr (.inr rfl))).trans h2
   have R:=(hs.2 D (.inr (.inl rfl))).trans h3
   have C:=(yd.1 L).1
   refine ⟨_,run_beginRound L (by rw[o]),?_⟩
   have aa:(Wa.putObj l (.loop {j .ready none with state:=.busy})).heap[l]?=some (.loop {j .ready none with state:=.busy}):=World.putObj_heap_same C
   have a7:(Wa.putObj l (.loop {j .ready none with state:=.busy})).heap[D]?=some (.deferred (some [])):=(World.putObj_heap_other (by omega)).trans R
   refine wpIn_mono (Z k hk _ _ l Y (.inr (.inr rfl)) ⟨_,aa⟩ (λb hb=>by have:=ab b hb;have:=hs.1;simp;omega) ((hA Y).put (.inr (.inr rfl)) _ ac)) ?_
   have M:∀(d:Option Code) (E:World),B7 (λb=>O b\/b=D\/b=l) (Wa.putObj l (.loop {j .ready none with state:=.busy})) E->
     (Instr.endRound l d).run P E=.ok (.bool d.isNone) (E.putObj l (.loop (j (if d.isNone then .ready else .done) d)))/\
     (E.putObj l (.loop (j (if d.isNone then .ready else .done) d))).heap[l]?=some (.loop (j (if d.isNone then .ready else .done) d))/\
     (E.putObj l (.loop (j (if d.isNone then .ready else .done) d))).heap[D]?=some (.deferred (some []))/\
     y.heap.size<=(E.putObj l (.loop (j (if d.isNone then .ready else .done) d))).heap.size/\
     B7 O W (E.putObj l (.loop (j (if d.isNone then .ready else .done) d))):=λd E m=>by
    have a1:=(m.2 l (.inr (.inr rfl))).trans aa
    have hr:=run_endRound (P:=P) d a1
    rw[o] at hr |-
    have z1:=hs.1
    have z3:Wa.heap.size<=E.heap.size:=by have:=m.1;simpa using this
    refine ⟨hr,World.putObj_heap_same (yd.1 a1).1,(World.putObj_heap_other (by omega)).trans ((m.2 D (.inr (.inl rfl))).trans a7),by simp;omega,by simp;omega,λb hb=>?_⟩
    have N:b≠l:=λe=>by have:=q b hb;have:=B b;subst e;grind
    rw[World.putObj_heap_other N,m.2 b (.inl hb),World.putObj_heap_other N,hs.2 b (.inl hb)]
   rintro e a3 E G
   cases e with
   |normal=>
    obtain ⟨m,u⟩:=G
    obtain ⟨hr,g1,L,R,g4⟩:=M none E m
    exact ⟨_,_,hr,.inl ⟨rfl,⟨hJ.put (.inr (.inr rfl)) _ u,g1,L,q,R⟩,g4⟩⟩
   |ret=>
    obtain ⟨m,u⟩:=G
    obtain ⟨hr,g1,L,R,g4⟩:=M (some .ret) E m
    exact ⟨_,_,hr,.inr (.inl ⟨rfl,⟨.ret,(I .ret).put (s:=()) (.inr (.inr rfl)) _ u,g1,L,q,R⟩,g4⟩)⟩
   |exit id=>
    obtain ⟨m,u⟩:=G
    obtain ⟨hr,g1,L,R,g4⟩:=M (some (.exit id)) E m
    exact ⟨_,_,hr,.inr (.inl ⟨rfl,⟨.exit id,(I (.exit id)).put (s:=()) (.inr (.inr rfl)) _ u,g1,L,q,R⟩,g4⟩)⟩
   |goto t=>
    obtain ⟨m,u⟩:=G
    obtain ⟨hr,g1,L,R,g4⟩:=M (some (.goto t)) E m
    exact ⟨_,_,hr,.inr (.inl ⟨rfl,⟨.goto t,(I (.goto t)).put (s:=()) (.inr (.inr rfl)) _ u,g1,L,q,R⟩,g4⟩)⟩
   |panic z=>
    obtain ⟨hd,m,u⟩:=G
    have z1:=hs.1
    have z3:Wa.heap.size<=E.heap.size:=by have:=m.1;simpa using this
    refine ⟨hd,.inr (.inr ⟨z,rfl,⟨u,(m.2 D (.inr (.inl rfl))).trans a7,q,by omega⟩,by omega,λb hb=>?_⟩)⟩
    have N:b≠l:=λe=>by have:=q b hb;have:=B b;subst e;grind
    rw[m.2 b (.inl hb),World.putObj_heap_other N,hs.2 b (.inl hb)]
   |outgrown=>exact G.elim
  |exit id=>exact G.elim
  |goto t=>exact G.elim
  |ret=>exact G.elim
  |panic z=>exact G.elim
  |outgrown=>exact G.elim
 rintro e W2 (⟨⟨v,rfl⟩,(⟨X,O,h1,h2,h3,q,h5⟩|⟨O,c,h1,h2,h3,q,h5⟩)⟩|⟨z,rfl,O,h1,h2,q,h5⟩)
 ·exact ⟨none,_,by have:=run_endLoop (P:=P) h2 (by rw[o];simp);rw[o] at this;exact this,V X D _ _ (yi _) (.inr (.inl rfl)) (hJ.put (.inr (.inr rfl)) _ h1) ((World.putObj_heap_other (by omega)).trans h3)⟩
 ·exact ⟨some c,_,by have:=run_endLoop (P:=P) h2 (by rw[o];simp);rw[o] at this;exact this,U D c _ _ (yi _) (.inr (.inl rfl)) ((I c).put (s:=()) (.inr (.inr rfl)) _ h1) ((World.putObj_heap_other (by omega)).trans h3)⟩
 exact S D z _ W2 (yi _) (.inr (.inl rfl)) h1 h2
end Go.Proofs.YtbdfinegbjdblaaGreatDoor
namespace Go.Proofs
open Go.Shelf Tryz
def Tryz.lays137_ren:Go.Shelf.Ren:=⟨fun|137=>145|217=>150|266=>155|n=>n,fun|9=>9|5=>5|3=>3|n=>n,fun|n=>n⟩
theorem Tryz.lays137:Go.Proofs.Lays.n137 prog Tryz.lays137_ren:={
 mixed:=by kernel_rfl
 f137:=func145.trans (congrArg some (by kernel_rfl))
 f217:=func150.trans (congrArg some (by kernel_rfl))
 f266:=func155.trans (congrArg some (by kernel_rfl))
 t3:=underlying3
 a3:=Tryz.isAgg3
 z3:=Tryz.sizeOf3
 v3:=Tryz.zeroValue3
 t5:=underlying5
 a5:=Tryz.isAgg5
 z5:=Tryz.sizeOf5
 v5:=Tryz.zeroValue5
 t9:=underlying9
 a9:=Tryz.isAgg9
 z9:=Tryz.sizeOf9
 v9:=Tryz.zeroValue9}
open Go.RowKit in
theorem Tryz.strings_IndexByte(s:ByteArray)(c:Int)(w:World):
  Calls prog 145 #[.string s,.int .u8 c] w λe w'=>e=.returned (.int .i64 (Lib.indexByte s.data.toList c.toNat.toUInt8))/\w'=w:=Any.strings_IndexByte Tryz.lays137 s c w
def Tryz.lays144_ren:Go.Shelf.Ren:=⟨fun|144=>113|143=>137|219=>146|217=>150|225=>151|224=>152|267=>153|266=>155|314=>156|n=>n,fun|9=>9|4=>4|3=>3|5=>5|46=>243|146=>256|51=>255|n=>n,fun|1=>6|n=>n⟩
theorem Tryz.lays144:Go.Proofs.Lays.n144 prog Tryz.lays144_ren:={
 mixed:=by kernel_rfl
 f143:=func137.trans (congrArg some (by kernel_rfl))
 f144:=func113.trans (congrArg some (by kernel_rfl))
 f217:=func150.trans (congrArg some (by kernel_rfl))
 f219:=func146.trans (congrArg some (by kernel_rfl))
 f224:=func152.trans (congrArg some (by kernel_rfl))
 f225:=func151.trans (congrArg some (by kernel_rfl))
 f266:=func155.trans (congrArg some (by kernel_rfl))
 f267:=func153.trans (congrArg some (by kernel_rfl))
 f314:=func156.trans (congrArg some (by kernel_rfl))
 t3:=underlying3
 a3:=Tryz.isAgg3
 z3:=Tryz.sizeOf3
 v3:=Tryz.zeroValue3
 t4:=underlying4
 a4:=Tryz.isAgg4
 z4:=Tryz.sizeOf4
 v4:=Tryz.zeroValue4
 t5:=underlying5
 a5:=Tryz.isAgg5
 z5:=Tryz.sizeOf5
 v5:=Tryz.zeroValue5
 t9:=underlying9
 a9:=Tryz.isAgg9
 z9:=Tryz.sizeOf9
 v9:=Tryz.zeroValue9
 t46:=underlying243
 a46:=Tryz.isAgg243
 z46:=Tryz.sizeOf243
 v46:=Tryz.zeroValue243
 t51:=underlying255
 a51:=Tryz.isAgg255
 z51:=Tryz.sizeOf255
 v51:=Tryz.zeroValue255
 t146:=underlying256
 a146:=Tryz.isAgg256
 z146:=Tryz.sizeOf256
 v146:=Tryz.zeroValue256
 g1:=by kernel_rfl}
open Go.RowKit Go.Lib in
theorem Tryz.strings_Contains(s sub:ByteArray)(m:Int)(w:World)(hs:s.size < 4294967281)(hm:w.cell? ⟨6,0,none⟩=some (.int .i64 m)):
  Calls prog 113 #[.string s,.string sub] w λe w'=>e=.returned (.bool (Lib.contains s.data.toList sub.data.toList))/\w'=w:=Any.strings_Contains Tryz.lays144 s sub m w hs hm
def Tryz.laysM144_ren:Go.Shelf.Ren:=⟨fun|144=>113|143=>137|219=>146|217=>150|225=>151|224=>152|267=>153|266=>155|314=>156|n=>n,fun|9=>9|4=>4|3=>3|5=>5|46=>243|146=>256|51=>255|n=>n,fun|1=>6|n=>n⟩
theorem Tryz.laysM144:Go.Proofs.LaysM.n144 prog Tryz.laysM144_ren:={
 mixed:=by kernel_rfl
 f143:=func137.trans (congrArg some (by kernel_rfl))
 f144:=func113.trans (congrArg some (by kernel_rfl))
 f217:=func150.trans (congrArg some (by kernel_rfl))
 f219:=func146.trans (congrArg some (by kernel_rfl))
 f224:=func152.trans (congrArg some (by kernel_rfl))
 f225:=func151.trans (congrArg some (by kernel_rfl))
 f266:=func155.trans (congrArg some (by kernel_rfl))
 f267:=func153.trans (congrArg some (by kernel_rfl))
 f314:=func156.trans (congrArg some (by kernel_rfl))
 t3:=underlying3
 a3:=Tryz.isAgg3
 z3:=Tryz.sizeOf3
 v3:=Tryz.zeroValue3
 t4:=underlying4
 a4:=Tryz.isAgg4
 z4:=Tryz.sizeOf4
 v4:=Tryz.zeroValue4
 t5:=underlying5
 a5:=Tryz.isAgg5
 z5:=Tryz.sizeOf5
 v5:=Tryz.zeroValue5
 t9:=underlying9
 a9:=Tryz.isAgg9
 z9:=Tryz.sizeOf9
 v9:=Tryz.zeroValue9
 t46:=underlying243
 a46:=Tryz.isAgg243
 z46:=Tryz.sizeOf243
 v46:=Tryz.zeroValue243
 t51:=underlying255
 a51:=Tryz.isAgg255
 z51:=Tryz.sizeOf255
 v51:=Tryz.zeroValue255
 t146:=underlying256
 a146:=Tryz.isAgg256
 z146:=Tryz.sizeOf256
 v146:=Tryz.zeroValue256
 g1:=by kernel_rfl
 i3:=by kernel_rfl
 i4:=by kernel_rfl
 i5:=by kernel_rfl
 i9:=by kernel_rfl
 i46:=by kernel_rfl
 i51:=by kernel_rfl
 i146:=by kernel_rfl
 m1:=by kernel_rfl
 s1_3:=λw h=>Go.Proofs.cell_of_shapedOpen_int (zero:=#[.int .i64 0]) (t:=3) h (of_decide_eq_true (by kernel_rfl)) (by kernel_rfl) rfl (by kernel_rfl) (by kernel_rfl) underlying3}
end Go.Proofs
namespace Go.Proofs.YtbdfinegbjdblaaGreatDoor
open Go.RowKit Tryz
theorem T4{k:IntKind}{a b:Int}(h:a=b):Ending.returned (.int k a)=.returned (.int k b):=by rw[h]
theorem Cc{a b:Bool}(h:a=b):Ending.returned (.bool a)=.returned (.bool b):=by rw[h]
theorem CX(e:Int)(w:World):Calls prog 98 #[.bool true,.int .i64 e] w λx w'=>x=.returned (.tuple #[])/\w'=w:=by
 go_enter func98,ntmps98
 go_wp2
 go_end0
 exact ⟨rfl,rfl⟩
theorem CM(e:Int)(w:World):Calls prog 98 #[.bool false,.int .i64 e] w λx w'=>x=.panicked [{v:=.iface 34 (.int .i64 e),recovered:=false}]/\w'=w:=by
 go_enter func98,ntmps98
 go_wp2
 exact ⟨rfl,rfl,rfl⟩
theorem TR:∀(e:Ex) {N:NP} {w:World} {cs:LV},Bm N w e cs->(∀b,N b->b < w.heap.size)->BB e<=1000000->
  Calls prog 111 #[.agg cs.toArray] w λx w'=>x=.returned (.int .i64 (BB e))/\Below w.heap.size w w':=by
 refine LX λop U u rn ri args ih=>?_
 intro N w cs h hN hd
 rw[Bm] at h
 obtain ⟨a,cap,rfl,R,hr,j⟩:=h
 have q:=yb j
 have y:=yb hN
 have Q:=yb ih
 have H:BB (.mk op U u rn ri args)=BX args:=rfl
 rw[H] at hd |-
 have A:=yb hd
 generalize I:args.length=m at R |-
 have L:=yb I
 clear j hN ih H hd I
 go_enter func111,ntmps111
 go_wp2
 go_loopw [2,8] (λV F wr=>∃i:Nat,V=iV (BX (args.take i))/\F=iV i/\i<=m/\Hid (Below w.heap.size w wr)) (λ_ F _=>m - (intOf F).toNat)
 case atStart=>exact ⟨0,by simp[BX],rfl,yC _,yb ((yg _ _).alloc (yi _) _)⟩
 obtain ⟨i,rfl,rfl,hi,s⟩:=hrel
 by_cases z:i < m
 ·have d:i < args.length:=by rw[L.o];exact z
  obtain ⟨b,o,cs,rfl,G,t,f⟩:=FP q.o i d
  have v:=Bm.same (λb h=>h) (FQ y.o s.o) f
  have c:=A8 t (s.o.block b (y.o b G))
  obtain ⟨S,r,rfl,_⟩:=f.cells
  rw[yy] at c
  obtain ⟨c0,c1,c2,c3,c4,c5⟩:=BP c
  have l:=RI d
  have g:=L4 d
  have E:=Kz args (i+1)
  have J:=yb (λ(W:World) (K:Below w.heap.size w W)=>Q.o args[i] (yR d) (Bm.same (λb h=>h) (FQ y.o K) f) (λb h=>yx (y.o b h) K.size) (by have:=A.o;omega))
  generalize args[i]=x at*
  have k:=yb (s.o.alloc s.o.size (.cells #[iV x.op,iV x.n,iV x.u,.string x.rn,iV x.ri,.slice S x.args.length r] 40))
  have P:(i:Int) < (m:Int):=by omega
  generalize hdx:BB x=O at l g J |-
  have T:=yb hdx
  generalize D:BX (args.take i)=M at g |-
  have C:=yb g
  have h1:(O:Int)<=1000000:=by have:=A.o;omega
  have h2:(M:Int)<=1000000:=by have:=A.o;omega
  clear f v t c hdx D l g E
  go_wp2_with fail
  refine (J.o _ k.o).mono ?_
  rintro e w2 ⟨rfl,p⟩
  have B:=yb (k.o.trans (p.mono k.o.size))
  clear p
  go_wp2
  refine ⟨⟨i+1,?_,by go_num,by omega,B⟩,by simp[intOf];omega⟩
  rw[C.o]
  congr 1
  first|(split<;>omega)|omega
 obtain rfl:i=m:=by omega
 go_wp2
 go_ret
 refine ⟨T4 (by rw[<-L.o,zA]),s.o⟩
def Dq(c:UInt8):Bool:=(97<=c.toNat&&c.toNat<=122)||(65<=c.toNat&&c.toNat<=90)
def KA(c:UInt8):Bool:=48<=c.toNat&&c.toNat<=57
def LY(c:UInt8):Bool:=c.toNat==32||c.toNat==9||c.toNat==10||c.toNat==13
def Gf(c:UInt8):Bool:=Dq c||KA c||c.toNat==95
def Vo:List UInt8:=[123,125,40,41,59,44,61,58,46,60,62,33,43,45,42,47]
def T5(c:UInt8):Bool:=Vo.contains c
def CP(c:UInt8):Int:=if Dq c then 2 else if KA c then 3 else if c.toNat==95 then 5 else if LY c then 1 else if T5 c then 4 else 0
theorem OP{c:UInt8}(h:(97<=c.toNat/\c.toNat<=122)\/(65<=c.toNat/\c.toNat<=90)):CP c=2:=by
 have:Dq c=true:=by simp[Dq];omega
 simp[CP,this]
theorem nl{c:UInt8}(h:¬ ((97<=c.toNat/\c.toNat<=122)\/(65<=c.toNat/\c.toNat<=90))):Dq c=false:=by
 rw[yB];simp[Dq];omega
theorem PL{c:UInt8}(h:48<=c.toNat/\c.toNat<=57):CP c=3:=by
 have:KA c=true:=by simp[KA];omega
 simp[CP,this,nl (c:=c) (by omega)]
theorem nd{c:UInt8}(h:¬ (48<=c.toNat/\c.toNat<=57)):KA c=false:=by
 rw[yB];simp[KA];omega
theorem RM{c:UInt8}(h:c.toNat=95):CP c=5:=by
 simp[CP,nd (c:=c) (by omega),nl (c:=c) (by omega),h]
theorem PM{c:UInt8}(h:c.toNat=32\/c.toNat=9\/c.toNat=10\/c.toNat=13):CP c=1:=by
 have:LY c=true:=by simp[LY];omega
 have h2:(c.toNat==95)=false:=by rw[yB];simp;omega
 simp[CP,nd (c:=c) (by omega),nl (c:=c) (by omega),h2,this]
theorem RN{c:UInt8}(h:¬ ((97<=c.toNat/\c.toNat<=122)\/(65<=c.toNat/\c.toNat<=90)))(h1:¬ (48<=c.toNat/\c.toNat<=57))(h2:¬ c.toNat=95)
 (h3:¬ (c.toNat=32\/c.toNat=9\/c.toNat=10\/c.toNat=13)):CP c=if T5 c then 4 else 0:=by
 have a:LY c=false:=by rw[yB];simp[LY];omega
 simp[CP,nd h1,nl h,h2,a]
theorem Vp(c:UInt8):(decide (0<=Lib.indexByte Vo ((c.toNat:Int)).toNat.toUInt8))=T5 c:=by
 have:((c.toNat:Int)).toNat.toUInt8=c:=by simp
 rw[this];exact (Lib.contains_iff_indexByte Vo c).symm
theorem RO(c:UInt8)(w:World):Calls prog 145 #[.string {data:=#[123,125,40,41,59,44,61,58,46,60,62,33,43,45,42,47]},.int .u8 (c.toNat:Int)] w λe w'=>∃n:Int,e=.returned (.int .i64 n)/\decide (0<=n)=T5 c/\w=w':=
 (Tryz.strings_IndexByte _ _ w).mono λ_ _ h=>⟨_,h.1,Vp c,h.2.symm⟩
theorem J2(c:UInt8)(w:World):
  Calls prog 136 #[.int .u8 (c.toNat:Int)] w λe w'=>e=.returned (.int .i64 (CP c))/\w=w':=by
 generalize hN:CP c=N
 have d:=yb hN;clear hN
 go_enter func136,ntmps136
 go_wp2_with (first|(go_at_call 145;refine (RO _ _).mono ?_;rintro e w' ⟨n,rfl,a,rfl⟩;have b:=yb a;clear a))
 all_goals
  go_ret
  refine ⟨T4 ?_,rfl⟩
  rw[<-d.o]
  try simp only[qi,qL,ne_eq] at*
  first
  |exact (OP (by omega)).symm
  |exact (PL (by omega)).symm
  |exact (RM (by omega)).symm
  |exact (PM (by omega)).symm
  |(rw[RN (by omega) (by omega) (by omega) (by omega),<-b.o];simp[*])
def GG:List UInt8->Bool
 |[]=>false
 |c::r=>decide ((c::r).length<=32)&&Dq c&&(c::r).all Gf
theorem TS(s:ByteArray)(k:Nat)(h:k < s.size):s.data.toList.take (k+1)=s.data.toList.take k++[s[k]]:=by
 rw[yP (by simpa using h)];rfl
theorem Gt(s:ByteArray):s.data.toList.length=s.size:=by simp
theorem Iz{s:ByteArray}(h:0 < s.size):GG s.data.toList=(decide (s.size<=32)&&Dq (s[0])&&s.data.toList.all Gf):=by
 obtain ⟨⟨l⟩⟩:=s
 cases l with
 |nil=>simp[ByteArray.size] at h
 |cons c r=>rfl
theorem PN{s:ByteArray}(h:¬ 0 < s.size):GG s.data.toList=false:=by
 obtain ⟨⟨l⟩⟩:=s
 cases l with
 |nil=>rfl
 |cons c r=>simp[ByteArray.size] at h
theorem RP{s:ByteArray}(h0:0 < s.size)(h:¬ s.size<=32):GG s.data.toList=false:=by rw[Iz h0];simp[h]
theorem PO{s:ByteArray}(h0:0 < s.size)(h:Dq s[0]=false):GG s.data.toList=false:=by rw[Iz h0];simp[h]
theorem RQ{s:ByteArray}{k:Nat}(a:k < s.size)(h:Gf s[k]=false):GG s.data.toList=false:=by
 rw[Iz (by omega)]
 have:s.data.toList.all Gf=false:=by
  rw[xH]
  exact ⟨s[k],by rw[Array.mem_toList_iff];exact Array.getElem_mem _,by simp[h]⟩
 rw[this];simp
theorem TT{s:ByteArray}(h0:0 < s.size)(a:s.size<=32)(h:Dq s[0]=true)(b:(s.data.toList.take s.size).all Gf=true):GG s.data.toList=true:=by
 rw[qz (by simp)] at b
 rw[Iz h0,b,h];simp[a]
theorem Vq{s:ByteArray}{k:Nat}(b:k < s.size)(a:(s.data.toList.take k).all Gf=true)(h:Gf s[k]=true):(s.data.toList.take (k+1)).all Gf=true:=by
 rw[TS s k b,List.all_append,a];simp[h]
theorem Vr(P:UInt8->Bool)(h:(List.range 256).all (λn=>P n.toUInt8)=true)(c:UInt8):P c=true:=by
 have:=zj.1 h c.toNat (by rw[zt];exact c.toNat_lt)
 simpa using this
theorem T6(c:UInt8):(CP c==2)=Dq c:=by
 have:=Vr (λc=>(CP c==2)==Dq c) (by decide+kernel) c
 simpa using this
theorem LK(c:UInt8):(CP c==2||CP c==3||CP c==5)=Gf c:=by
 have:=Vr (λc=>(CP c==2||CP c==3||CP c==5)==Gf c) (by decide+kernel) c
 simpa using this
theorem TU{s:ByteArray}(h:0 < s.size):s.toList.isEmpty=false:=by
 rw[xJ,List.isEmpty_eq_false_iff];intro e;have:=Gt s;rw[e] at this;simp at this;omega
theorem Vs{s:ByteArray}(h:¬ 0 < s.size):s.toList.isEmpty=true:=by
 rw[xJ,List.isEmpty_iff,<-zL,Gt];omega
theorem Vt(c:UInt8)(n:Int)(h:CP c=n)(w:World):
  Calls prog 136 #[.int .u8 (c.toNat:Int)] w λe w'=>e=.returned (.int .i64 n)/\w=w':=by
 rw[<-h];exact J2 c w
theorem TV{c:UInt8}(h:Dq c=true):CP c=2:=by
 have:=T6 c
 rw[h] at this
 simpa using this
theorem LZ(c:UInt8)(h:Dq c=false)(w:World):
  Calls prog 136 #[.int .u8 (c.toNat:Int)] w λe w'=>∃n:Int,(n !=2)=true/\e=.returned (.int .i64 n)/\w=w':=
 (J2 c w).mono λ_ _ a=>⟨_,by have:=T6 c;rw[h] at this;simpa using this,a⟩
theorem RR(c:UInt8)(h:Gf c=true)(w:World):
  Calls prog 136 #[.int .u8 (c.toNat:Int)] w λe w'=>∃n:Int,(n=2\/n=3\/n=5)/\e=.returned (.int .i64 n)/\w=w':=
 (J2 c w).mono λ_ _ a=>⟨_,by have:=LK c;rw[h] at this;simpa[or_assoc] using this,a⟩
theorem OQ(c:UInt8)(h:Gf c=false)(w:World):
  Calls prog 136 #[.int .u8 (c.toNat:Int)] w λe w'=>∃n:Int,(n !=2)=true/\(n !=3)=true/\(n !=5)=true/\e=.returned (.int .i64 n)/\w=w':=
 (J2 c w).mono λ_ _ a=>⟨_,by have:=LK c;rw[h] at this;simp at this;simp[this],by have:=LK c;rw[h] at this;simp at this;simp[this],by have:=LK c;rw[h] at this;simp at this;simp[this],a⟩
theorem Vu(s:ByteArray)(w:World)(hs:s.size<=maxLen):
  Calls prog 112 #[.string s] w λe w'=>e=.returned (.bool (GG s.data.toList))/\w=w':=by
 unfold maxLen at hs
 generalize hN:GG s.data.toList=N
 have f:=yb hN;clear hN
 by_cases h0:0 < s.size
 ·have j:=TU h0
  by_cases d:s.size<=32
  ·have m:decide (32 < (s.size:Int))=false:=by simp;omega
   by_cases h:Dq s[0]=true
   ·have b:=yb h;clear h
    go_enter func112,ntmps112
    go_wp2_with (first|(go_at_call 136;refine (Vt _ 2 (TV b.o) _).mono ?_;rintro e w' ⟨rfl,rfl⟩))
    go_loop [3,4,20] (λ_ _ i=>∃k:Nat,k<=s.size/\i=iV k/\(s.data.toList.take k).all Gf=true) (λ_ _ i=>s.size - (intOf i).toNat)
    case atStart=>exact ⟨0,by omega,rfl,rfl⟩
    obtain ⟨k,q,rfl,n⟩:=hrel
    have l:=yb n;clear n
    by_cases a:k < s.size
    ·by_cases g:Gf s[k]=true
     ·have c:=yb g;clear g
      go_wp2_with (first|(go_at_call 136;refine (RR _ c.o _).mono ?_;rintro e w' ⟨n1,(rfl|rfl|rfl),rfl,rfl⟩))
      all_goals exact ⟨⟨k+1,by omega,by go_num,Vq a l.o c.o⟩,by simp[intOf];omega⟩
     have c:=yb (yB.2 g);clear g
     go_wp2_with (first|(go_at_call 136;refine (OQ _ c.o _).mono ?_;rintro e w' ⟨n1,c2,c3,c5,rfl,rfl⟩))
     go_ret
     exact ⟨Cc (by rw[<-f.o,RQ a c.o]),rfl⟩
    go_wp2
    go_ret
    obtain rfl:k=s.size:=by omega
    exact ⟨Cc (by rw[<-f.o,TT h0 d b.o l.o]),rfl⟩
   have b:=yb (yB.2 h);clear h
   go_enter func112,ntmps112
   go_wp2_with (first|(go_at_call 136;refine (LZ _ b.o _).mono ?_;rintro e w' ⟨n0,p,rfl,rfl⟩))
   go_ret
   exact ⟨Cc (by rw[<-f.o,PO h0 b.o]),rfl⟩
  go_enter func112,ntmps112
  go_wp2_with fail
  go_ret
  exact ⟨Cc (by rw[<-f.o,RP h0 d]),rfl⟩
 have j:=Vs h0
 go_enter func112,ntmps112
 go_wp2_with fail
 go_ret
 exact ⟨Cc (by rw[<-f.o,PN h0]),rfl⟩
end Go.Proofs.YtbdfinegbjdblaaGreatDoor
namespace Go.Proofs.YtbdfinegbjdblaaGreatDoor
open Go.RowKit Tryz
attribute [local go_sem] Oper.semAt_some
def LL(J:Nat->NP->World->Prop)(Jx:NP->World->Prop)(Jp:List PanicEntry->NP->World->Prop)(O:NP)(k:Nat)(W:World)(e:Ending)(W':World):Prop:=
 (e=.returned (.bool true)/\J k O W'/\B7 O W W')\/(e=.returned (.bool false)/\Jx O W'/\B7 O W W')\/∃a,e=.panicked a/\Jp a O W'/\B7 O W W'
theorem DE{O:NP}{W W':World}(h:B7 O W W'){b o:Nat}(hb:O b){v:Value}(hc:W.cell? ⟨b,o,none⟩=some v):W'.cell? ⟨b,o,none⟩=some v:=by
 unfold World.cell? at hc |-
 rw[h.2 b hb];exact hc
theorem Xq(n:Nat)(Q:1<=n)(l Bc g:Nat)(lt:Int)(ps:LV)(f:Nat)(O:NP)(J:Nat->NP->World->Prop)(Jx:NP->World->Prop)(Jp:List PanicEntry->NP->World->Prop)(W:World)
 (z:O Bc)(hg:O g)(r:ps.length<=100)(hc:W.cell? ⟨Bc,0,none⟩=some (.func (.yield l) #[] #[]))(j:∀i (h:i < ps.length),W.cell? ⟨g,i,none⟩=some ps[i])(a:∀i (h:i < ps.length),∃p,ps[i]=.pointer (some p))
 (y:∀i (h:i < ps.length) W1,J (f+i) O W1->B7 O W W1->YieldAt Fence.wide (n - 1) prog l #[ps[i],.int .i64 lt] W1 (LL J Jx Jp O (f+i+1) W1))
 (h0:J f O W):
  CallsIn Fence.wide n prog 125 #[.int .i64 lt,.slice (some ⟨g,0,none⟩) ps.length ps.length,.pointer (some ⟨Bc,0,none⟩)] W (LL J Jx Jp O (f+ps.length) W):=by
 have L:=yb hc
 have w:=yb j
 have D:=yb y
 have K:=yb h0
 have H:=yb z
 have s:=yb hg
 have k:=yb a
 generalize hN:ps.length=N at r |-
 have M:=yb hN
 clear hc j y h0 hN z hg a
 refine callsIn_of_wp func125 rfl trivial ?_ rfl
 simp only[ntmps125,yA,yr,yK,Nat.reduceAdd,Nat.reduceSub,zw,zx,zG,zD,yS,yQ]
 gi_wp2
 gi_loopw [10] (λv wr=>∃i:Nat,i<=N/\v=iV i/\Hid (J (f+i) O wr)/\Hid (B7 O W wr)) (λv _=>N - (intOf v).toNat)
 case atStart=>exact ⟨0,yC _,rfl,K,yb (B7.refl _ _)⟩
 obtain ⟨i,hi,rfl,A,b⟩:=hrel
 by_cases q:i < N
 ·have d:i < ps.length:=by rw[M.o];exact q
  have c0:=DE b.o H.o L.o
  have c1:=DE b.o s.o (w.o i d)
  obtain ⟨p,m⟩:=k.o i d
  obtain ⟨fn,tmps,assign,body,I,x⟩:=D.o i d wr A.o b.o
  rw[m] at c1 I
  have E:=yb x
  have F:(i:Int) < (N:Int):=by omega
  clear x m
  gi_wp2
  refine E.o.mono ?_
  rintro e P (⟨rfl,B,hs⟩|⟨rfl,C,hs⟩|⟨G,rfl,m,hs⟩)
  ·have t:=yb B
   have c:=yb (b.o.trans hs)
   clear B hs
   gi_wp2
   exact ⟨⟨i+1,by omega,by go_num,t,c⟩,by simp[intOf];omega⟩
  ·have u:=yb C
   have c:=yb (b.o.trans hs)
   clear C hs
   gi_wp2
   go_ret
   exact .inr (.inl ⟨rfl,u.o,c.o⟩)
  exact ⟨rfl,.inr (.inr ⟨G,rfl,m,b.o.trans hs⟩)⟩
 obtain rfl:i=N:=by omega
 gi_wp2
 go_ret
 exact .inl ⟨rfl,A.o,b.o⟩
end Go.Proofs.YtbdfinegbjdblaaGreatDoor
namespace Go.Proofs.YtbdfinegbjdblaaGreatDoor
open Go.RowKit Tryz
structure AA where
 a:Option Addr
 n:Nat
 c:Nat
def AA.v(h:AA):Value:=.slice h.a h.n h.c
def AA.at(h:AA)(sz i c:Nat):Addr:=match h.a with
 |some ⟨b,o,_⟩=>⟨b,o+i*sz+c,none⟩
 |none=>⟨0,0,none⟩
def AA.ptr(h:AA)(sz i a:Nat):Value:=.pointer (some (h.at sz i a))
def AA.ok(h:AA):Prop:=h.n<=140737488355328/\(0 < h.n->∃b o,h.a=some ⟨b,o,none⟩)
theorem AA.ok.get{h:AA}(e:h.ok){i:Nat}(hi:i < h.n):∃b o,h.a=some ⟨b,o,none⟩/\∀sz i c,h.at sz i c=⟨b,o+i*sz+c,none⟩:=by
 obtain ⟨b,o,d⟩:=e.2 (by omega)
 exact ⟨b,o,d,λsz i c=>by unfold AA.at;rw[d]⟩
structure BQ where
 s:Nat
 lets:AA
 crops:AA
 reaches:AA
 farms:AA
 rots:AA
 rights:AA
 duties:AA
 turns:List AA
def one(p:Value)(lt:Int):List (Array Value):=[#[p,.int .i64 lt]]
def many(ps:LV):List (Array Value):=ps.map λp=>#[p,.int .i64 0]
def Au(s:Nat):LV:=[.pointer (some ⟨s,1,none⟩),.pointer (some ⟨s,7,none⟩),.pointer (some ⟨s,13,none⟩)]
def LM(h:AA)(i:Nat):LV:=[h.ptr 51 i 3,h.ptr 51 i 9,h.ptr 51 i 15,h.ptr 51 i 21,h.ptr 51 i 27,h.ptr 51 i 33,h.ptr 51 i 39,h.ptr 51 i 45]
def EU(h:AA)(i:Nat):LV:=[h.ptr 23 i 4,h.ptr 23 i 10,h.ptr 23 i 16]
def LN(h:AA)(i:Nat):LV:=[h.ptr 37 i 7,h.ptr 37 i 13,h.ptr 37 i 19,h.ptr 37 i 25,h.ptr 37 i 31]
def Ac(L:BQ)(i:Nat):AA:=L.turns.getD i ⟨none,0,0⟩
def AF(L:BQ)(n:Nat):List (Array Value):=(List.range n).flatMap λi=> [#[L.lets.ptr 7 i 1,.int .i64 (1+(i:Int))]]
def Av(L:BQ)(n:Nat):List (Array Value):=(List.range n).flatMap λi=>many [L.crops.ptr 7 i 1]
def Ak(L:BQ)(n:Nat):List (Array Value):=(List.range n).flatMap λi=>many (LM L.reaches i)
def AG(L:BQ)(n:Nat):List (Array Value):=(List.range n).flatMap λi=>many [L.farms.ptr 12 i 4]
def C8(h:AA)(n:Nat):List (Array Value):=(List.range n).flatMap λk=>many [h.ptr 8 k 2]
def Bw(L:BQ)(n:Nat):List (Array Value):=(List.range n).flatMap λi=>many (EU L.rots i)++C8 (Ac L i) (Ac L i).n
def B8(L:BQ)(n:Nat):List (Array Value):=(List.range n).flatMap λi=>many (LN L.rights i)
def BM(L:BQ)(n:Nat):List (Array Value):=(List.range n).flatMap λi=>many [L.duties.ptr 11 i 5]
def Cd(L:BQ):List (Array Value):=
 many (Au L.s)++(AF L L.lets.n++(Av L L.crops.n++(Ak L L.reaches.n++(AG L L.farms.n++(Bw L L.rots.n++(B8 L L.rights.n++BM L L.duties.n))))))
structure K3 (L:BQ) (Bs:Nat) (W:World):Prop where
 box:W.cell? ⟨Bs,0,none⟩=some (.pointer (some ⟨L.s,0,none⟩))
 lets:W.cell? ⟨L.s,19,none⟩=some L.lets.v
 crops:W.cell? ⟨L.s,20,none⟩=some L.crops.v
 reaches:W.cell? ⟨L.s,21,none⟩=some L.reaches.v
 farms:W.cell? ⟨L.s,22,none⟩=some L.farms.v
 rots:W.cell? ⟨L.s,23,none⟩=some L.rots.v
 rights:W.cell? ⟨L.s,24,none⟩=some L.rights.v
 duties:W.cell? ⟨L.s,25,none⟩=some L.duties.v
 turns:∀i,i < L.rots.n->W.cell? (L.rots.at 23 i 22)=some (Ac L i).v
structure BQ.Ok (L:BQ):Prop where
 lets:L.lets.ok
 crops:L.crops.ok
 reaches:L.reaches.ok
 farms:L.farms.ok
 rots:L.rots.ok
 rights:L.rights.ok
 duties:L.duties.ok
 turns:∀i,i < L.rots.n->(Ac L i).ok
theorem BW{α:Type}(f:Nat->List α){n i:Nat}(h:i < n):∃post,(List.range n).flatMap f=(List.range i).flatMap f++(f i++post):=by
 obtain ⟨m,rfl⟩:∃m,n=(i+1)+m:=⟨n - (i+1),by omega⟩
 rw[List.range_add,zJ,List.range_succ,zJ]
 exact ⟨_,by simp[yX];rfl⟩
theorem Aw{α:Type}(f:Nat->List α)(i:Nat):(List.range (i+1)).flatMap f=(List.range i).flatMap f++f i:=by
 rw[List.range_succ,zJ];simp
structure aF (n l:Nat) (P:Program) (xs:List (Array Value)) (Hd:World->Prop) (J:Nat->(Nat->Prop)->World->Prop) (Jx:(Nat->Prop)->World->Prop) (Jp:List PanicEntry->(Nat->Prop)->World->Prop) (W0:World):Prop where
 stays:Cv J
 staysx:Cv (λ(_:Unit)=>Jx)
 hd:∀k O W,J k O W->Hd W
 hdx:∀O W,Jx O W->Hd W
 round:∀k (hk:k < xs.length) O W1,J k O W1->W0.heap.size<=W1.heap.size->(∀b,O b->W0.heap.size<=b/\b < W1.heap.size)->YieldAt Fence.wide n P l xs[k] W1 (LL J Jx Jp O (k+1) W1)
structure Jt (J:Nat->(Nat->Prop)->World->Prop) (W0:World) (l Bc k:Nat) (O:Nat->Prop) (wr:World):Prop where
 j:J k O wr
 bc:O Bc
 box:wr.cell? ⟨Bc,0,none⟩=some (.func (.yield l) #[] #[])
 size:W0.heap.size<=wr.heap.size
 own:∀b,O b->W0.heap.size<=b/\b < wr.heap.size
section
variable{n l Bc k:Nat}{P:Program}{xs:List (Array Value)}{Hd:World->Prop}{J:Nat->NP->World->Prop}{Jx:NP->World->Prop}{Jp:List PanicEntry->NP->World->Prop}{W0 wr w2:World}{O:NP}
theorem CY{β:Type}{J:β->NP->World->Prop}(h:Cv J){s:β}{O:NP}{W W':World}(d:J s O W)(hb:Below W.heap.size W W'):J s (λb=>O b\/(W.heap.size<=b/\b < W'.heap.size)) W':=
 h s O W _ W' d hb.size hb.os hb.tape hb.output (λb _ c=>hb.block b c) (λ_ a=>a.elim .inl (λh=>.inr h.1))
theorem Jt.below(hc:aF n l P xs Hd J Jx Jp W0)(h:Jt J W0 l Bc k O wr)(hb:Below wr.heap.size wr w2):Jt J W0 l Bc k (λb=>O b\/(wr.heap.size<=b/\b < w2.heap.size)) w2:=
 ⟨CY hc.stays h.j hb,.inl h.bc,(hb.cell (p:=⟨Bc,0,none⟩) (h.own _ h.bc).2).trans h.box,yG h.size hb.size,λb a=>by
  rcases a with a|a
  ·have:=h.own b a;have:=hb.size;omega
  have:=h.size;omega⟩
def aM(J:Nat->NP->World->Prop)(Jx:NP->World->Prop)(Jp:List PanicEntry->NP->World->Prop)(W0:World)(l Bc k:Nat)(e:Ending)(W':World):Prop:=
 (∃r:Bool,e=.returned (.bool r)/\((r=true/\∃a,Jt J W0 l Bc k a W')\/(r=false/\∃a,Jx a W')))\/∃b,e=.panicked b/\∃a,Jp b a W'
theorem E1(hc:aF (n - 1) l prog xs Hd J Jx Jp W0)(w:1<=n){pre:List (Array Value)}(h:Jt J W0 l Bc pre.length O wr)(lt:Int)(a:Array Value)(N:Nat)(hN:a.size=N)(t:TypeId)(k:∃post,xs=pre++(a.toList.map (λp=>#[p,.int .i64 lt])++post))(m:N<=100)(d:∀p∈a.toList,∃q,p=.pointer (some q))(g:Nat)(hg:g=wr.heap.size):
  Calls prog 125 #[.int .i64 lt,.slice (some ⟨g,0,none⟩) N N,.pointer (some ⟨Bc,0,none⟩)] (wr.alloc (.cells a t)) (aM J Jx Jp W0 l Bc (pre.length+N)):=by
 subst hN hg
 have hb:Below wr.heap.size wr (wr.alloc (.cells a t)):=(yg _ _).alloc (yi _) _
 have h2:=h.below hc hb
 have c:a.toList.length=a.size:=by simp
 refine zi.1 ((Xq n w l Bc wr.heap.size lt a.toList pre.length _ J Jx Jp _ h2.bc (.inr ⟨yi _,by simp⟩) (by rw[c];exact m) h2.box (λi hi=>?_) (λi hi=>d _ (yR hi)) (λi hi s f hs=>?_) h2.j).mono ?_)
 ·have:(wr.alloc (.cells a t)).heap[wr.heap.size]?=some (.cells a t (0,0)):=World.alloc_heap_new _ _
  simp only[World.cell?,this]
  simp[c▸hi]
 ·obtain ⟨post,k⟩:=k
  have v:pre.length+i < xs.length:=by rw[k];simp;simp at hi;omega
  have r:xs[pre.length+i]=#[a.toList[i],iV lt]:=by
   subst k
   rw[qj (by omega)]
   simp only[xk]
   rw[qo (by simpa using hi),xg]
  have:=hc.round (pre.length+i) v _ s f (yG h2.size hs.1) (λb hb=>by have:=h2.own b hb;have:=hs.1;omega)
  rw[r] at this
  exact this
 rintro e W' (⟨rfl,f,hs⟩|⟨rfl,o,hs⟩|⟨u,rfl,x,_⟩)
 ·rw[c] at f
  exact .inl ⟨true,rfl,.inl ⟨rfl,_,f,h2.bc,DE hs h2.bc h2.box,yG h2.size hs.1,λb hb=>by have:=h2.own b hb;have:=hs.1;omega⟩⟩
 ·exact .inl ⟨false,rfl,.inr ⟨rfl,_,o⟩⟩
 exact .inr ⟨u,rfl,_,x⟩
end
structure Rf where
 name:ByteArray
 n:Int
structure FR where
 name:ByteArray
 value:Ex
structure DH where
 name:ByteArray
 need:Ex
structure AS where
 name:ByteArray
 frm:Rf
 delay:Ex
 cap:Ex
 bank:Ex
 siphon:Ex
 evap0:Ex
 evap1:Ex
 seep0:Ex
 seep1:Ex
structure BG where
 name:ByteArray
 on:Rf
 river:Bool
 area:Ex
 crop:Rf
structure C6 where
 farm:Rf
 len:Ex
structure Bq where
 name:ByteArray
 on:Rf
 rank:Int
 flow:Ex
 frm:Ex
 to:Ex
 turns:List C6
structure Bj where
 kind:Int
 name:ByteArray
 farm:Rf
 reach:Rf
 rank:Int
 flow:Ex
 frm:Ex
 to:Ex
 every:Ex
 len:Ex
structure CZ where
 name:ByteArray
 farm:Rf
 reach:Rf
 due:Ex
structure AM where
 name:ByteArray
 season:Ex
 cap:Ex
 start:Ex
 lets:List FR
 crops:List DH
 reaches:List AS
 farms:List BG
 rots:List Bq
 rights:List Bj
 duties:List CZ
def Bg{α:Type}(N:NP)(w:World)(sz:Nat)(P:LV->α->Prop)(h:AA)(l:List α):Prop:=
 h.n=l.length/\l.length<=140737488355328/\∀i (hi:i < l.length),∃b o cs,h.a=some ⟨b,o,none⟩/\N b/\cs.length=sz/\w.rangeAt b (o+i*sz) cs/\P cs l[i]
def B6(r:Rf):LV:=[.string r.name,.int .i64 r.n]
section
variable(N:NP)(w:World)
def Np(cs:LV)(d:FR):Prop:=d.name.size<=maxLen/\∃c,cs=.string d.name::c/\Bm N w d.value c
def K4(cs:LV)(d:DH):Prop:=d.name.size<=maxLen/\∃c,cs=.string d.name::c/\Bm N w d.need c
def Hk(cs:LV)(d:AS):Prop:=d.name.size<=maxLen/\d.frm.name.size<=maxLen/\∃c0 c1 c2 c3 c4 c5 c6 c7,cs=.string d.name::(B6 d.frm++(c0++(c1++(c2++(c3++(c4++(c5++(c6++c7))))))))/\
 Bm N w d.delay c0/\Bm N w d.cap c1/\Bm N w d.bank c2/\Bm N w d.siphon c3/\Bm N w d.evap0 c4/\Bm N w d.evap1 c5/\Bm N w d.seep0 c6/\Bm N w d.seep1 c7
def K5(cs:LV)(d:BG):Prop:=d.name.size<=maxLen/\d.on.name.size<=maxLen/\d.crop.name.size<=maxLen/\∃c,cs=.string d.name::(B6 d.on++(.bool d.river::(c++B6 d.crop)))/\Bm N w d.area c
def IA(cs:LV)(d:C6):Prop:=d.farm.name.size<=maxLen/\∃c,cs=B6 d.farm++c/\Bm N w d.len c
def Ip(h:AA)(cs:LV)(d:Bq):Prop:=d.name.size<=maxLen/\d.on.name.size<=maxLen/\∃c0 c1 c2,cs=.string d.name::(B6 d.on++(.int .i64 d.rank::(c0++(c1++(c2++[h.v])))))/\
 Bm N w d.flow c0/\Bm N w d.frm c1/\Bm N w d.to c2/\Bg N w 8 (IA N w) h d.turns
def Gu(cs:LV)(d:Bj):Prop:=d.name.size<=maxLen/\d.farm.name.size<=maxLen/\d.reach.name.size<=maxLen/\∃c0 c1 c2 c3 c4,cs=.int .i64 d.kind::.string d.name::(B6 d.farm++(B6 d.reach++(.int .i64 d.rank::(c0++(c1++(c2++(c3++c4)))))))/\
 Bm N w d.flow c0/\Bm N w d.frm c1/\Bm N w d.to c2/\Bm N w d.every c3/\Bm N w d.len c4
def K6(cs:LV)(d:CZ):Prop:=d.name.size<=maxLen/\d.farm.name.size<=maxLen/\d.reach.name.size<=maxLen/\∃c,cs=.string d.name::(B6 d.farm++(B6 d.reach++c))/\Bm N w d.due c
structure CQ (L:BQ) (cs:List Value) (x:AM):Prop where
 name:x.name.size<=maxLen
 cells:∃c0 c1 c2,cs=.string x.name::(c0++(c1++(c2++[L.lets.v,L.crops.v,L.reaches.v,L.farms.v,L.rots.v,L.rights.v,L.duties.v])))/\Bm N w x.season c0/\Bm N w x.cap c1/\Bm N w x.start c2
 lets:Bg N w 7 (Np N w) L.lets x.lets
 crops:Bg N w 7 (K4 N w) L.crops x.crops
 reaches:Bg N w 51 (Hk N w) L.reaches x.reaches
 farms:Bg N w 12 (K5 N w) L.farms x.farms
 rots:L.rots.n=x.rots.length/\x.rots.length<=140737488355328/\∀i (hi:i < x.rots.length),∃b o cs,L.rots.a=some ⟨b,o,none⟩/\N b/\cs.length=23/\w.rangeAt b (o+i*23) cs/\Ip N w (Ac L i) cs x.rots[i]
 rights:Bg N w 37 (Gu N w) L.rights x.rights
 duties:Bg N w 11 (K6 N w) L.duties x.duties
end
section
variable{N N':NP}{w w':World}
theorem Bg.same{α:Type}{sz:Nat}{P a:LV->α->Prop}{h:AA}{l:List α}(g:∀b,N b->N' b)(hb:∀b,N b->w'.heap[b]?=w.heap[b]?)(j:∀cs d,P cs d->a cs d)(hr:Bg N w sz P h l):Bg N' w' sz a h l:=by
 obtain ⟨h1,h2,h3⟩:=hr
 refine ⟨h1,h2,λi hi=>?_⟩
 obtain ⟨b,o,cs,g1,c,e,g4,f⟩:=h3 i hi
 exact ⟨b,o,cs,g1,g b c,e,A8 g4 (hb b c),j _ _ f⟩
theorem Bg.ok{α:Type}{sz:Nat}{P:LV->α->Prop}{h:AA}{l:List α}(hr:Bg N w sz P h l):h.ok:=by
 obtain ⟨h1,h2,h3⟩:=hr
 refine ⟨by omega,λa=>?_⟩
 obtain ⟨b,o,_,g1,_⟩:=h3 0 (by omega)
 exact ⟨b,o,g1⟩
theorem Np.same(a:∀b,N b->N' b)(hb:∀b,N b->w'.heap[b]?=w.heap[b]?){cs:LV}{d:FR}(h:Np N w cs d):Np N' w' cs d:=by
 obtain ⟨h1,c,h2,h3⟩:=h
 exact ⟨h1,c,h2,h3.same a hb⟩
theorem K4.same(a:∀b,N b->N' b)(hb:∀b,N b->w'.heap[b]?=w.heap[b]?){cs:LV}{d:DH}(h:K4 N w cs d):K4 N' w' cs d:=by
 obtain ⟨h1,c,h2,h3⟩:=h
 exact ⟨h1,c,h2,h3.same a hb⟩
theorem Hk.same(a:∀b,N b->N' b)(hb:∀b,N b->w'.heap[b]?=w.heap[b]?){cs:LV}{d:AS}(h:Hk N w cs d):Hk N' w' cs d:=by
 obtain ⟨h1,h2,c0,c1,c2,c3,c4,c5,c6,c7,h3,g0,g1,c,e,g4,g,i,f⟩:=h
 exact ⟨h1,h2,c0,c1,c2,c3,c4,c5,c6,c7,h3,g0.same a hb,g1.same a hb,c.same a hb,e.same a hb,g4.same a hb,g.same a hb,i.same a hb,f.same a hb⟩
theorem K5.same(a:∀b,N b->N' b)(hb:∀b,N b->w'.heap[b]?=w.heap[b]?){cs:LV}{d:BG}(h:K5 N w cs d):K5 N' w' cs d:=by
 obtain ⟨h1,h2,h3,c,e,g⟩:=h
 exact ⟨h1,h2,h3,c,e,g.same a hb⟩
theorem IA.same(a:∀b,N b->N' b)(hb:∀b,N b->w'.heap[b]?=w.heap[b]?){cs:LV}{d:C6}(h:IA N w cs d):IA N' w' cs d:=by
 obtain ⟨h1,c,h2,g⟩:=h
 exact ⟨h1,c,h2,g.same a hb⟩
theorem Ip.same(a:∀b,N b->N' b)(hb:∀b,N b->w'.heap[b]?=w.heap[b]?){t:AA}{cs:LV}{d:Bq}(h:Ip N w t cs d):Ip N' w' t cs d:=by
 obtain ⟨h1,h2,c0,c1,c2,h3,g0,g1,e,c⟩:=h
 exact ⟨h1,h2,c0,c1,c2,h3,g0.same a hb,g1.same a hb,e.same a hb,c.same a hb (λ_ _ h=>h.same a hb)⟩
theorem Gu.same(a:∀b,N b->N' b)(hb:∀b,N b->w'.heap[b]?=w.heap[b]?){cs:LV}{d:Bj}(h:Gu N w cs d):Gu N' w' cs d:=by
 obtain ⟨h1,h2,h3,c0,c1,c2,c3,c4,f,g0,g1,c,e,g4⟩:=h
 exact ⟨h1,h2,h3,c0,c1,c2,c3,c4,f,g0.same a hb,g1.same a hb,c.same a hb,e.same a hb,g4.same a hb⟩
theorem K6.same(a:∀b,N b->N' b)(hb:∀b,N b->w'.heap[b]?=w.heap[b]?){cs:LV}{d:CZ}(h:K6 N w cs d):K6 N' w' cs d:=by
 obtain ⟨h1,h2,h3,c,e,g⟩:=h
 exact ⟨h1,h2,h3,c,e,g.same a hb⟩
theorem CQ.same(a:∀b,N b->N' b)(hb:∀b,N b->w'.heap[b]?=w.heap[b]?){L:BQ}{cs:LV}{x:AM}(h:CQ N w L cs x):CQ N' w' L cs x:=by
 refine ⟨h.name,?_,h.lets.same a hb (λ_ _ h=>h.same a hb),h.crops.same a hb (λ_ _ h=>h.same a hb),h.reaches.same a hb (λ_ _ h=>h.same a hb),h.farms.same a hb (λ_ _ h=>h.same a hb),?_,h.rights.same a hb (λ_ _ h=>h.same a hb),h.duties.same a hb (λ_ _ h=>h.same a hb)⟩
 ·obtain ⟨c0,c1,c2,h1,g0,g1,c⟩:=h.cells
  exact ⟨c0,c1,c2,h1,g0.same a hb,g1.same a hb,c.same a hb⟩
 obtain ⟨h1,h2,h3⟩:=h.rots
 refine ⟨h1,h2,λi hi=>?_⟩
 obtain ⟨b,o,cs,g1,c,d,g4,e⟩:=h3 i hi
 exact ⟨b,o,cs,g1,a b c,d,A8 g4 (hb b c),e.same a hb⟩
theorem CQ.ok{L:BQ}{cs:LV}{x:AM}(h:CQ N w L cs x):L.Ok:=by
 obtain ⟨h1,h2,h3⟩:=h.rots
 refine ⟨h.lets.ok,h.crops.ok,h.reaches.ok,h.farms.ok,⟨by omega,λa=>?_⟩,h.rights.ok,h.duties.ok,λi hi=>?_⟩
 ·obtain ⟨b,o,_,g1,_⟩:=h3 0 (by omega)
  exact ⟨b,o,g1⟩
 obtain ⟨_,_,_,_,_,_,_,g⟩:=h3 i (by omega)
 obtain ⟨_,_,_,_,_,_,_,_,_,g⟩:=g
 exact g.ok
end
def B9{α β:Type}(R:α->β->Prop):List α->List β->Prop
 |[],[]=>True
 |a::l,b::m=>R a b/\B9 R l m
 |_,_=>False
section
variable{α β:Type}{R:α->β->Prop}
theorem B9.append:∀ {l:List α} {m:List β} {l':List α} {a:List β},B9 R l m->B9 R l' a->B9 R (l++l') (m++a)
 |[],[],_,_,_,h=>h
 |_::_,_::_,_,_,h,h'=>⟨h.1,h.2.append h'⟩
 |[],_::_,_,_,h,_=>h.elim
 |_::_,[],_,_,h,_=>h.elim
theorem B9.length:∀ {l:List α} {m:List β},B9 R l m->l.length=m.length
 |[],[],_=>rfl
 |_::_,_::_,h=>by simp[h.2.length]
 |[],_::_,h=>h.elim
 |_::_,[],h=>h.elim
theorem B9.get:∀ {l:List α} {m:List β},B9 R l m->∀i (h:i < l.length) (a:i < m.length),R l[i] m[i]
 |[],_,_,i,h,_=>by simp at h
 |_::_,_::_,h,0,_,_=>h.1
 |_::_,_::_,h,i+1,h1,h2=>h.2.get i (by simpa using h1) (by simpa using h2)
 |_::_,[],h,_,_,_=>h.elim
theorem B9.mono{R':α->β->Prop}(hr:∀a b,R a b->R' a b):∀ {l:List α} {m:List β},B9 R l m->B9 R' l m
 |[],[],h=>h
 |_::_,_::_,h=>⟨hr _ _ h.1,h.2.mono hr⟩
 |[],_::_,h=>h.elim
 |_::_,[],h=>h.elim
theorem NY{γ:Type}(f:Nat->List α)(g:Nat->γ->List β):∀(l:List γ) (k:Nat),(∀i (h:i < l.length),B9 R (f (k+i)) (g (k+i) l[i]))->B9 R ((List.range' k l.length).flatMap f) ((l.zipIdx k).flatMap λp=>g p.2 p.1)
 |[],_,_=>by simp[B9]
 |x::r,k,h=>by
  rw[yr,List.range'_succ,yY,List.zipIdx_cons,yY]
  refine (h 0 (by simp)).append (NY f g r (k+1) λi hi=>?_)
  have:=h (i+1) (by simpa using hi)
  rw[show k+1+i=k+(i+1) by omega]
  simpa using this
theorem BD{γ:Type}(f:Nat->List α)(g:Nat->γ->List β)(l:List γ)(n:Nat)(a:n=l.length)(h:∀i (h:i < l.length),B9 R (f i) (g i l[i])):B9 R ((List.range n).flatMap f) (l.zipIdx.flatMap λp=>g p.2 p.1):=by
 subst a
 rw[List.range_eq_range']
 exact NY f g l 0 (λi hi=>by rw[yy];exact h i hi)
end
abbrev M3:=Ex × Int
def NZ(l:List FR):List M3:=l.zipIdx.flatMap λp=> [(p.1.value,1+(p.2:Int))]
def KB(l:List DH):List M3:=l.zipIdx.flatMap λp=> [(p.1.need,0)]
def GH(l:List AS):List M3:=l.zipIdx.flatMap λp=> [(p.1.delay,0),(p.1.cap,0),(p.1.bank,0),(p.1.siphon,0),(p.1.evap0,0),(p.1.evap1,0),(p.1.seep0,0),(p.1.seep1,0)]
def KC(l:List BG):List M3:=l.zipIdx.flatMap λp=> [(p.1.area,0)]
def Fw(l:List C6):List M3:=l.zipIdx.flatMap λp=> [(p.1.len,0)]
def M4(l:List Bq):List M3:=l.zipIdx.flatMap λp=> [(p.1.flow,0),(p.1.frm,0),(p.1.to,0)]++Fw p.1.turns
def J4(l:List Bj):List M3:=l.zipIdx.flatMap λp=> [(p.1.flow,0),(p.1.frm,0),(p.1.to,0),(p.1.every,0),(p.1.len,0)]
def J5(l:List CZ):List M3:=l.zipIdx.flatMap λp=> [(p.1.due,0)]
def Ba(x:AM):List M3:=
 [(x.season,0),(x.cap,0),(x.start,0)]++(NZ x.lets++(KB x.crops++(GH x.reaches++(KC x.farms++(M4 x.rots++(J4 x.rights++J5 x.duties))))))
def aN(N:NP)(s:Nat)(w:World)(a:Array Value)(e:M3):Prop:=
 ∃b o cs,a=#[.pointer (some ⟨b,o,none⟩),.int .i64 e.2]/\(b=s\/N b)/\w.rangeAt b o cs/\Bm N w e.1 cs
theorem EZ{w:World}{b o:Nat}{p c q:LV}(h:w.rangeAt b o (p++(c++q))):w.rangeAt b (o+p.length) c:=λj v a=>by
 have d:=(yF.1 a).1
 have:=h (p.length+j) v (by rw[zn (by omega),xk,zI d];exact a)
 rw[show o+p.length+j=o+(p.length+j) by omega];exact this
theorem Bm.len{N:NP}{w:World}{e:Ex}{c:LV}(h:Bm N w e c):c.length=6:=by
 obtain ⟨a,cap,rfl,_⟩:=h.cells;rfl
theorem D4{N:NP}{s:Nat}{w:World}{h:AA}{b o sz i a:Nat}{p c q:LV}{e:Ex}(lt:Int)(d:∀sz i a,h.at sz i a=⟨b,o+i*sz+a,none⟩)(hb:b=s\/N b){cs:LV}(hr:w.rangeAt b (o+i*sz) cs)(hc:cs=p++(c++q))(g:p.length=a)(f:Bm N w e c):
  aN N s w #[h.ptr sz i a,.int .i64 lt] (e,lt):=by
 subst hc
 refine ⟨b,o+i*sz+a,c,?_,hb,?_,f⟩
 ·unfold AA.ptr;rw[d]
 have:=EZ hr
 rw[g] at this;exact this
theorem Bo{h:AA}{b o:Nat}(d:h.a=some ⟨b,o,none⟩):∀sz i c,h.at sz i c=⟨b,o+i*sz+c,none⟩:=λsz i c=>by unfold AA.at;rw[d]
theorem C3(r:Rf):(B6 r).length=2:=rfl
section
variable{N:NP}{w:World}{L:BQ}{cs:LV}{x:AM}
theorem JG(h:CQ N w L cs x)(hr:w.rangeAt L.s 0 cs):B9 (aN N L.s w) (Cd L) (Ba x):=by
 refine B9.append ?_ (B9.append ?_ (B9.append ?_ (B9.append ?_ (B9.append ?_ (B9.append ?_ (B9.append ?_ ?_))))))
 ·obtain ⟨c0,c1,c2,rfl,g0,g1,a⟩:=h.cells
  have e:=g0.len
  have f:=g1.len
  refine ⟨⟨L.s,1,c0,rfl,.inl rfl,?_,g0⟩,⟨L.s,7,c1,rfl,.inl rfl,?_,g1⟩,⟨L.s,13,c2,rfl,.inl rfl,?_,a⟩,trivial⟩
  ·exact EZ (p:=[.string x.name]) (o:=0) hr
  ·have:=EZ (p:=.string x.name::c0) (c:=c1) (q:=c2++[L.lets.v,L.crops.v,L.reaches.v,L.farms.v,L.rots.v,L.rights.v,L.duties.v]) (o:=0) (b:=L.s) (w:=w) (by simpa using hr)
   simpa[e] using this
  have:=EZ (p:=.string x.name::(c0++c1)) (c:=c2) (q:=[L.lets.v,L.crops.v,L.reaches.v,L.farms.v,L.rots.v,L.rights.v,L.duties.v]) (o:=0) (b:=L.s) (w:=w) (by simpa using hr)
  simpa[e,f] using this
 ·obtain ⟨h1,h2,h3⟩:=h.lets
  refine BD _ (λi (d:FR)=> [(d.value,1+(i:Int))]) x.lets _ h1 λi hi=>?_
  obtain ⟨b,o,cs,g1,a,r,g4,_,c,rfl,g⟩:=h3 i hi
  exact ⟨D4 (p:=[.string (x.lets[i]).name]) (q:=[]) _ (Bo g1) (.inr a) g4 (by simp) rfl g,trivial⟩
 ·obtain ⟨h1,h2,h3⟩:=h.crops
  refine BD _ (λi (d:DH)=> [(d.need,0)]) x.crops _ h1 λi hi=>?_
  obtain ⟨b,o,cs,g1,a,r,g4,_,c,rfl,g⟩:=h3 i hi
  exact ⟨D4 (p:=[.string (x.crops[i]).name]) (q:=[]) _ (Bo g1) (.inr a) g4 (by simp) rfl g,trivial⟩
 ·obtain ⟨h1,h2,h3⟩:=h.reaches
  refine BD _ (λi (d:AS)=> [(d.delay,0),(d.cap,0),(d.bank,0),(d.siphon,0),(d.evap0,0),(d.evap1,0),(d.seep0,0),(d.seep1,0)]) x.reaches _ h1 λi hi=>?_
  obtain ⟨b,o,cs,g1,a,r,g4,_,_,c0,c1,c2,c3,c4,c5,c6,c7,rfl,j,m,n,t,u,A,z,C⟩:=h3 i hi
  generalize x.reaches[i]=d at*
  have e:=j.len;have f:=m.len;have l:=n.len;have l3:=t.len;have l4:=u.len;have y:=A.len;have B:=z.len
  refine ⟨?_,?_,?_,?_,?_,?_,?_,?_,trivial⟩
  ·exact D4 (p:=.string d.name::B6 d.frm) _ (Bo g1) (.inr a) g4 (by simp;rfl) rfl j
  ·exact D4 (p:=.string d.name::(B6 d.frm++c0)) _ (Bo g1) (.inr a) g4 (by simp;rfl) (by simp[C3,e]) m
  ·exact D4 (p:=.string d.name::(B6 d.frm++(c0++c1))) _ (Bo g1) (.inr a) g4 (by simp;rfl) (by simp[C3,e,f]) n
  ·exact D4 (p:=.string d.name::(B6 d.frm++(c0++(c1++c2)))) _ (Bo g1) (.inr a) g4 (by simp;rfl) (by simp[C3,e,f,l]) t
  ·exact D4 (p:=.string d.name::(B6 d.frm++(c0++(c1++(c2++c3))))) _ (Bo g1) (.inr a) g4 (by simp;rfl) (by simp[C3,e,f,l,l3]) u
  ·exact D4 (p:=.string d.name::(B6 d.frm++(c0++(c1++(c2++(c3++c4)))))) _ (Bo g1) (.inr a) g4 (by simp;rfl) (by simp[C3,e,f,l,l3,l4]) A
  ·exact D4 (p:=.string d.name::(B6 d.frm++(c0++(c1++(c2++(c3++(c4++c5))))))) _ (Bo g1) (.inr a) g4 (by simp;rfl) (by simp[C3,e,f,l,l3,l4,y]) z
  exact D4 (p:=.string d.name::(B6 d.frm++(c0++(c1++(c2++(c3++(c4++(c5++c6)))))))) (q:=[]) _ (Bo g1) (.inr a) g4 (by simp) (by simp[C3,e,f,l,l3,l4,y,B]) C
 ·obtain ⟨h1,h2,h3⟩:=h.farms
  refine BD _ (λi (d:BG)=> [(d.area,0)]) x.farms _ h1 λi hi=>?_
  obtain ⟨b,o,cs,g1,a,r,g4,_,_,_,c,rfl,g⟩:=h3 i hi
  generalize x.farms[i]=d at*
  exact ⟨D4 (p:=.string d.name::(B6 d.on++[.bool d.river])) _ (Bo g1) (.inr a) g4 (by simp;rfl) rfl g,trivial⟩
 ·obtain ⟨h1,h2,h3⟩:=h.rots
  refine BD _ (λi (d:Bq)=> [(d.flow,0),(d.frm,0),(d.to,0)]++Fw d.turns) x.rots _ h1 λi hi=>?_
  obtain ⟨b,o,cs,g1,a,r,g4,_,_,c0,c1,c2,rfl,j,m,n,D⟩:=h3 i hi
  generalize x.rots[i]=d at*
  have e:=j.len;have f:=m.len
  refine B9.append ⟨?_,?_,?_,trivial⟩ ?_
  ·exact D4 (p:=.string d.name::(B6 d.on++[iV d.rank])) _ (Bo g1) (.inr a) g4 (by simp;rfl) rfl j
  ·exact D4 (p:=.string d.name::(B6 d.on++(iV d.rank::c0))) _ (Bo g1) (.inr a) g4 (by simp;rfl) (by simp[C3,e]) m
  ·exact D4 (p:=.string d.name::(B6 d.on++(iV d.rank::(c0++c1)))) _ (Bo g1) (.inr a) g4 (by simp;rfl) (by simp[C3,e,f]) n
  obtain ⟨h1,h2,h3⟩:=D
  refine BD _ (λk (d:C6)=> [(d.len,0)]) d.turns _ h1 λk E=>?_
  obtain ⟨b,o,cs,g1,a,r,g4,_,c,rfl,g⟩:=h3 k E
  exact ⟨D4 (p:=B6 (d.turns[k]).farm) (q:=[]) _ (Bo g1) (.inr a) g4 (by simp) rfl g,trivial⟩
 ·obtain ⟨h1,h2,h3⟩:=h.rights
  refine BD _ (λi (d:Bj)=> [(d.flow,0),(d.frm,0),(d.to,0),(d.every,0),(d.len,0)]) x.rights _ h1 λi hi=>?_
  obtain ⟨b,o,cs,g1,a,r,g4,_,_,_,c0,c1,c2,c3,c4,rfl,j,m,n,t,u⟩:=h3 i hi
  generalize x.rights[i]=d at*
  have e:=j.len;have f:=m.len;have l:=n.len;have l3:=t.len
  refine ⟨?_,?_,?_,?_,?_,trivial⟩
  ·exact D4 (p:=iV d.kind::.string d.name::(B6 d.farm++(B6 d.reach++[iV d.rank]))) _ (Bo g1) (.inr a) g4 (by simp;rfl) rfl j
  ·exact D4 (p:=iV d.kind::.string d.name::(B6 d.farm++(B6 d.reach++(iV d.rank::c0)))) _ (Bo g1) (.inr a) g4 (by simp;rfl) (by simp[C3,e]) m
  ·exact D4 (p:=iV d.kind::.string d.name::(B6 d.farm++(B6 d.reach++(iV d.rank::(c0++c1))))) _ (Bo g1) (.inr a) g4 (by simp;rfl) (by simp[C3,e,f]) n
  ·exact D4 (p:=iV d.kind::.string d.name::(B6 d.farm++(B6 d.reach++(iV d.rank::(c0++(c1++c2)))))) _ (Bo g1) (.inr a) g4 (by simp;rfl) (by simp[C3,e,f,l]) t
  exact D4 (p:=iV d.kind::.string d.name::(B6 d.farm++(B6 d.reach++(iV d.rank::(c0++(c1++(c2++c3))))))) (q:=[]) _ (Bo g1) (.inr a) g4 (by simp) (by simp[C3,e,f,l,l3]) u
 obtain ⟨h1,h2,h3⟩:=h.duties
 refine BD _ (λi (d:CZ)=> [(d.due,0)]) x.duties _ h1 λi hi=>?_
 obtain ⟨b,o,cs,g1,a,r,g4,_,_,_,c,rfl,g⟩:=h3 i hi
 generalize x.duties[i]=d at*
 exact ⟨D4 (p:=.string d.name::(B6 d.farm++B6 d.reach)) (q:=[]) _ (Bo g1) (.inr a) g4 (by simp) rfl g,trivial⟩
theorem M5(h:CQ N w L cs x)(hr:w.rangeAt L.s 0 cs){Bs:Nat}(d:w.cell? ⟨Bs,0,none⟩=some (.pointer (some ⟨L.s,0,none⟩))):K3 L Bs w:=by
 obtain ⟨c0,c1,c2,rfl,g0,g1,l⟩:=h.cells
 have t:=g0.len;have y:=g1.len;have r:=l.len
 have a:=EZ (p:=.string x.name::(c0++(c1++c2))) (c:=[L.lets.v,L.crops.v,L.reaches.v,L.farms.v,L.rots.v,L.rights.v,L.duties.v]) (q:=[]) (o:=0) (b:=L.s) (w:=w) (by simpa using hr)
 have e:(Value.string x.name::(c0++(c1++c2))).length=19:=by simp[t,y,r]
 rw[e] at a
 refine ⟨d,a 0 _ rfl,a 1 _ rfl,a 2 _ rfl,a 3 _ rfl,a 4 _ rfl,a 5 _ rfl,a 6 _ rfl,λi hi=>?_⟩
 obtain ⟨h1,h2,h3⟩:=h.rots
 obtain ⟨b,o,cs,z,A,B,k,_,_,f,j,g,rfl,m,n,u,_⟩:=h3 i (by omega)
 rw[Bo z]
 have:=EZ (p:=.string (x.rots[i]'(by omega)).name::(B6 (x.rots[i]'(by omega)).on++(iV (x.rots[i]'(by omega)).rank::(f++(j++g))))) (c:=[(Ac L i).v]) (q:=[]) (o:=o+i*23) (b:=b) (w:=w) (by simpa using k)
 have e:(Value.string (x.rots[i]'(by omega)).name::(B6 (x.rots[i]'(by omega)).on++(iV (x.rots[i]'(by omega)).rank::(f++(j++g))))).length=22:=by simp[C3,m.len,n.len,u.len]
 rw[e] at this
 exact this 0 _ rfl
end
structure Us where
 b:Nat
 o:Nat
 to:Int
 at_:Int
 name:ByteArray
 n:Int
def Us.v(u:Us):Array Value:=#[.agg #[.pointer (some ⟨u.b,u.o,none⟩),.int .i64 u.to,.int .i64 u.at_]]
def PE(op:Int)(len:Nat):Bool:=decide (1<=op)&&(decide (op<=6)&&(if 3<=op then decide (len=2) else decide (len=0)))
def Nj(op lt:Int):Int:=if op=2 then (if 0 < lt then 2 else 1) else 0
def RE(op lt:Int):Int:=if op=2 then (if 0 < lt then lt - 1 else 0) else 0
mutual
def Cx(w:World)(lt:Int):Ex->Nat->Nat->List Us × Bool
 |.mk op _ _ rn ri args,b,o=>if PE op args.length then (⟨b,o+3,Nj op lt,RE op lt,rn,ri⟩::(BU w lt args (w.cell? ⟨b,o+5,none⟩) 0).1,(BU w lt args (w.cell? ⟨b,o+5,none⟩) 0).2) else ([],false)
def BU(w:World)(lt:Int):List Ex->Option Value->Nat->List Us × Bool
 |[],_,_=>([],true)
 |e::r,v,i=>match v with
  |some (.slice (some ⟨b,o,none⟩) _ _)=>if (Cx w lt e b (o+i*6)).2 then ((Cx w lt e b (o+i*6)).1++(BU w lt r v (i+1)).1,(BU w lt r v (i+1)).2) else ((Cx w lt e b (o+i*6)).1,false)
  |_=>([],false)
end
theorem O0{w:World}{lt:Int}{b o n c:Nat}{e:Ex}:∀(l:List Ex) (i:Nat),BU w lt (l++[e]) (some (.slice (some ⟨b,o,none⟩) n c)) i=
  if (BU w lt l (some (.slice (some ⟨b,o,none⟩) n c)) i).2 then ((BU w lt l (some (.slice (some ⟨b,o,none⟩) n c)) i).1++(Cx w lt e b (o+(i+l.length)*6)).1,(Cx w lt e b (o+(i+l.length)*6)).2) else BU w lt l (some (.slice (some ⟨b,o,none⟩) n c)) i
 |[],i=>by
  simp only[yS,BU,yK,qC,xi]
  split
  ·rename_i h;simp[h]
  rename_i h;simp[h]
 |x::r,i=>by
  simp only[yQ,BU,O0 r (i+1),yr]
  rw[show i+(r.length+1)=i+1+r.length by omega]
  by_cases h1:(Cx w lt x b (o+i*6)).2=true
  ·simp only[h1,xi]
   by_cases h2:(BU w lt r (some (.slice (some ⟨b,o,none⟩) n c)) (i+1)).2=true
   ·simp[h2]
   simp[h2]
  simp[h1]
theorem O1{w:World}{lt:Int}{b o n c:Nat}:∀(l m:List Ex) (i:Nat),(BU w lt l (some (.slice (some ⟨b,o,none⟩) n c)) i).2=false->BU w lt (l++m) (some (.slice (some ⟨b,o,none⟩) n c)) i=BU w lt l (some (.slice (some ⟨b,o,none⟩) n c)) i
 |[],m,i,h=>by simp[BU] at h
 |x::r,m,i,h=>by
  simp only[BU,yQ] at h |-
  by_cases h1:(Cx w lt x b (o+i*6)).2=true
  ·simp only[h1,xi] at h |-
   rw[O1 r m (i+1) h]
  simp[h1]
theorem PR{w:World}{lt:Int}{b o n c:Nat}:∀(l m:List Ex) (i:Nat),∃post,(BU w lt (l++m) (some (.slice (some ⟨b,o,none⟩) n c)) i).1=(BU w lt l (some (.slice (some ⟨b,o,none⟩) n c)) i).1++post
 |[],m,i=>⟨_,rfl⟩
 |x::r,m,i=>by
  simp only[BU,yQ]
  by_cases h1:(Cx w lt x b (o+i*6)).2=true
  ·simp only[h1,xi]
   obtain ⟨post,a⟩:=PR r m (i+1)
   exact ⟨post,by rw[a];simp⟩
  simp only[h1]
  exact ⟨[],by simp⟩
mutual
def TW(w:World)(C:Addr->Prop):Ex->Nat->Nat->Prop
 |.mk op _ _ _ _ args,b,o=>∃a cap,(w.cell? ⟨b,o,none⟩=some (.int .i64 op)/\C ⟨b,o,none⟩)/\(w.cell? ⟨b,o+5,none⟩=some (.slice a args.length cap)/\C ⟨b,o+5,none⟩)/\args.length<=140737488355328/\Lw w C a 0 args
def Lw(w:World)(C:Addr->Prop)(a:Option Addr):Nat->List Ex->Prop
 |_,[]=>True
 |i,e::r=>(∃b o,a=some ⟨b,o,none⟩/\TW w C e b (o+i*6))/\Lw w C a (i+1) r
end
theorem PS{w:World}{C:Addr->Prop}{a:Option Addr}:∀ {l:List Ex} {k:Nat},Lw w C a k l->∀i (h:i < l.length),∃b o,a=some ⟨b,o,none⟩/\TW w C l[i] b (o+(k+i)*6)
 |[],_,_,i,h=>by simp at h
 |e::r,k,hr,i,h=>by
  rw[Lw] at hr
  cases i with
  |zero=>exact hr.1
  |succ i=>
   obtain ⟨b,o,h1,h2⟩:=PS hr.2 i (by simpa using h)
   exact ⟨b,o,h1,by rw[show k+(i+1)=k+1+i by omega];simpa using h2⟩
theorem TX{w:World}{lt:Int}{b o n c:Nat}{l:List Ex}{i:Nat}(h:i < l.length)(a:(BU w lt (l.take i) (some (.slice (some ⟨b,o,none⟩) n c)) 0).2=true):
  BU w lt (l.take (i+1)) (some (.slice (some ⟨b,o,none⟩) n c)) 0=((BU w lt (l.take i) (some (.slice (some ⟨b,o,none⟩) n c)) 0).1++(Cx w lt l[i] b (o+i*6)).1,(Cx w lt l[i] b (o+i*6)).2):=by
 have d:(l.take i).length=i:=by rw[zM];omega
 rw[yP h,O0,a,yz rfl,d,yy]
structure KD (J:Nat->(Nat->Prop)->World->Prop) (O:Nat->Prop) (B0 l By Bi k:Nat) (W:World):Prop where
 j:J k O W
 size:B0<=W.heap.size
 own:∀b,O b->b < W.heap.size
 y:O By/\W.cell? ⟨By,0,none⟩=some (.func (.yield l) #[] #[])
 i:O Bi/\W.cell? ⟨Bi,0,none⟩=some (.func (.func 100) #[] #[.pointer (some ⟨By,0,none⟩),.pointer (some ⟨Bi,0,none⟩)])
section
variable{J:Nat->NP->World->Prop}{Jx:NP->World->Prop}{Jp:List PanicEntry->NP->World->Prop}{O:NP}{B0 l By Bi k k':Nat}{W W':World}
theorem KD.below(d:Cv J)(h:KD J O B0 l By Bi k W)(hb:Below W.heap.size W W'):KD J O B0 l By Bi k W':=
 ⟨d k O W O W' h.j hb.size hb.os hb.tape hb.output (λb _ c=>hb.block b c) (λ_=>.inl),yG h.size hb.size,λb a=>yx (h.own b a) hb.size,
  ⟨h.y.1,(hb.cell (p:=⟨By,0,none⟩) (h.own _ h.y.1)).trans h.y.2⟩,⟨h.i.1,(hb.cell (p:=⟨Bi,0,none⟩) (h.own _ h.i.1)).trans h.i.2⟩⟩
theorem KD.same(h:KD J O B0 l By Bi k W)(c:J k' O W')(hs:B7 O W W'):KD J O B0 l By Bi k' W':=
 ⟨c,yG h.size hs.1,λb a=>yx (h.own b a) hs.1,⟨h.y.1,DE hs h.y.1 h.y.2⟩,⟨h.i.1,DE hs h.i.1 h.i.2⟩⟩
theorem KD.sameBelow(h:KD J O B0 l By Bi k W)(hb:Below W.heap.size W W'):B7 O W W':=⟨hb.size,λb a=>hb.block b (h.own b a)⟩
def PT(J:Nat->NP->World->Prop)(Jx:NP->World->Prop)(Jp:List PanicEntry->NP->World->Prop)(O:NP)(k:Nat)(ok:Bool)(W:World)(e:Ending)(W':World):Prop:=
 (∃r:Bool,e=.returned (.bool r)/\B7 O W W'/\((r=true/\ok=true/\J k O W')\/(r=false/\Jx O W')))\/∃a,e=.panicked a/\Jp a O W'/\B7 O W W'
theorem PT.from(hs:B7 O W W'){e:Ending}{a:World}{ok:Bool}(h:PT J Jx Jp O k ok W' e a):PT J Jx Jp O k ok W e a:=by
 rcases h with ⟨r,h1,h2,h3⟩|h
 ·exact .inl ⟨r,h1,hs.trans h2,h3⟩
 obtain ⟨b,h1,h2,h3⟩:=h
 exact .inr ⟨b,h1,h2,hs.trans h3⟩
end
end Go.Proofs.YtbdfinegbjdblaaGreatDoor
namespace Go.Proofs.YtbdfinegbjdblaaGreatDoor
open Go.RowKit Go.Maps Go.ChangeMaps Go.WideMaps Go.MapKept Tryz
open Go.WideElems (Fit rd rg pl rd_val elemAt)
theorem PX:Keyed prog 9:=string_keyed jC
theorem Yr(w:World):(zeroValue 3).run prog w=.ok (.int .i64 0) w:=by kernel_rfl
def Dj:LB->ByteArray->Option Nat
 |[],_=>none
 |x::r,s=>if x=s then some 0 else (Dj r s).map (·+1)
theorem Hq{l:LB}{s:ByteArray}(h:s∉l):Dj l s=none:=by
 induction l with
 |nil=>rfl
 |cons x r ih=>
  rw[yq,not_or] at h
  rw[Dj,ym (λe=>h.1 e.symm),ih h.2];rfl
theorem KF{l:LB}{s:ByteArray}(h:s∈l):∃i,Dj l s=some i/\∃h:i < l.length,l[i]=s:=by
 induction l with
 |nil=>simp at h
 |cons x r ih=>
  rw[Dj]
  by_cases a:x=s
  ·rw[yz a]
   exact ⟨0,rfl,by simp,by simpa using a⟩
  rw[ym a]
  obtain ⟨i,h1,h2,h3⟩:=ih ((yq.1 h).resolve_left (λe=>a e.symm))
  exact ⟨i+1,by rw[h1];rfl,by simpa using h2,by simpa using h3⟩
theorem RX{l:LB}{x:ByteArray}(h:x∉l)(s:ByteArray):Dj (l++[x]) s=if s=x then some l.length else Dj l s:=by
 induction l with
 |nil=>
  simp only[yS,Dj,yK]
  by_cases hs:s=x
  ·rw[yz hs,yz hs.symm]
  rw[ym hs,ym (λe=>hs e.symm)];rfl
 |cons y r ih=>
  rw[yq,not_or] at h
  rw[yQ,Dj,Dj,ih h.2]
  by_cases a:y=s
  ·rw[yz a,yz a]
   by_cases hs:s=x
   ·exact absurd (hs.symm.trans a.symm) h.1
   rw[ym hs]
  rw[ym a,ym a]
  by_cases hs:s=x
  ·rw[yz hs,yz hs];simp
  rw[ym hs,ym hs]
def Cl(w:World)(m:Nat)(b:LB):Prop:=
 ∃c a,w.heap[m]?=some (.map c a)/\Fit (H:=Unit) prog 9 (plainElem prog 3) c a/\c.size=b.length/\
  ∀s:ByteArray,s.size<=maxLen->∀d:DataW Unit,(DataW.map ((c.toList.map (rg prog 9 (plainElem prog 3))).foldr DataW.insert [])).atKey (.string s.data.toList) d=(match Dj b s with|some i=>.lit (.int .i64 (i:Int))|none=>d)
theorem Mc(w:World):Cl (w.alloc (.map #[] 0)) w.heap.size []:=
 ⟨#[],0,(MapKept.heap_alloc w _).1,⟨by simp,stamped_empty 0,by simp⟩,rfl,λs _ a=>rfl⟩
theorem Cl.block{w w':World}{m:Nat}{b:LB}(h:Cl w m b)(hb:w'.heap[m]?=w.heap[m]?):Cl w' m b:=by
 obtain ⟨c,a,h1,h2⟩:=h
 exact ⟨c,a,hb.trans h1,h2⟩
theorem Cl.lt{w:World}{m:Nat}{b:LB}(h:Cl w m b):m < w.heap.size:=by
 obtain ⟨c,a,h1,h2⟩:=h
 exact (yd.1 h1).1
theorem Cl.size{w:World}{m:Nat}{b:LB}(h:Cl w m b):∃c a,w.heap[m]?=some (.map c a)/\c.size=b.length:=by
 obtain ⟨c,a,h1,_,h2,_⟩:=h
 exact ⟨c,a,h1,h2⟩
def Ju(a:LB)(s:ByteArray):Value:=
 match Dj a s with
 |some i=>.tuple #[.int .i64 (i:Int),.bool true]
 |none=>.tuple #[.int .i64 0,.bool false]
theorem Cl.look{w:World}{m:Nat}{c:LB}(h:Cl w m c)(s:ByteArray)(hs:s.size<=maxLen):
  (Instr.lookup 194 (.map (some m)) (.string s) true).run prog w=.ok (Ju c s) w:=by
 obtain ⟨p,j,hb,F,_,d⟩:=h
 have f:=keyOf_string_mk (P:=prog) jC hs
 rcases Maps.fit_look (t:=194) true PX j4 (Yr w) hb F f with ⟨b,_,n⟩|⟨q,y,_,_,b,k,l,_⟩
 ·rw[b]
  have h1:=n .nil
  rw[d s hs] at h1
  unfold Ju
  cases g:Dj c s with
  |none=>rfl
  |some i=>rw[g] at h1;cases h1
 rw[b]
 obtain ⟨a,o,e,_⟩:=plainElem_int_inv (H:=Unit) je k
 have h1:=l .nil
 rw[d s hs] at h1
 unfold Ju
 cases g:Dj c s with
 |none=>rw[g,e] at h1;cases h1
 |some i=>
  rw[g,e] at h1
  simp only[DataW.lit.injEq,Lit.int.injEq,true_and] at h1
  rw[o,<-h1];rfl
theorem Md{H:Type}(p:Lit × DataW H):∀l:List (Lit × DataW H),p∈l.foldr DataW.insert []->p∈l
 |[],h=>h
 |x::r,h=>by
  rw[List.foldr_cons,mem_insert_iff] at h
  exact h.elim (λe=>by rw[e];exact xq) (λh=>zP _ (Md p r h))
theorem Cl.put{w:World}{m:Nat}{a:LB}(h:Cl w m a)(s:ByteArray)(hs:s.size<=maxLen)(A:s∉a)(v:a.length < 1000000):
  ∃w',(Instr.mapUpdate 194 (.map (some m)) (.string s) (.int .i64 (a.length:Int))).run prog w=.ok () w'/\Cl w' m (a++[s])/\w.grownBy w' (some m):=by
 obtain ⟨k,q,hb,F,o,j⟩:=h
 have b:=keyOf_string_mk (P:=prog) jC hs
 have E:plainElem (H:=Unit) prog 3 (iV (a.length:Int))=some (.lit (.int .i64 (a.length:Int)),[]):=plainElem_int je (by simp only[Lit.wf,yw,yM];exact ⟨by have:IntKind.min .i64= -9223372036854775808:=rfl;omega,by have:IntKind.max .i64=9223372036854775807:=rfl;omega⟩)
 obtain ⟨g,c,l,F',d,_⟩:=Maps.fit_store (R':=plainElem prog 3) (t:=194) PX j4 hb F (by unfold maxLen;omega) (λ_ _ _ _ v=>v) b E
 have n:∀x∈k.toList,x.key≠.string s:=by
  rcases Maps.fit_look (t:=194) true PX j4 (Yr w) hb F b with ⟨_,h,_⟩|⟨G,y,_,_,_,_,u,_⟩
  ·exact h
  have h1:=u .nil
  have h2:=u (.lit (.bool true))
  rw[j s hs,Hq A] at h1 h2
  rw[<-h1] at h2
  cases h2
 refine ⟨_,l,⟨g,c,heap_setBlock_same hb _,F',?_,?_⟩,⟨rfl,rfl,rfl,by simp[setBlock],λi _ hi=>heap_setBlock_other hb _ (λe=>hi (by rw[e]))⟩⟩
 ·have C:g.size=((g.toList.map (rg prog 9 (plainElem (H:=Unit) prog 3))).foldr DataW.insert []).length:=by rw[length_sorted];simp
  rw[C,d]
  unfold putKey
  rw[length_insert]
  have z:=filter_all PX F b n
  have D:(((k.toList.map (rg prog 9 (plainElem (H:=Unit) prog 3))).foldr DataW.insert []).filter (notKey (.string s.data.toList)))=((k.toList.map (rg prog 9 (plainElem (H:=Unit) prog 3))).foldr DataW.insert []):=by
   rw[List.filter_eq_self] at z |-
   exact λp r=>z p (Md p _ r)
  rw[D,length_sorted]
  simp[o]
 intro t B I
 rw[d]
 have r:(DataW.map (putKey (.string s.data.toList) (.lit (.int .i64 (a.length:Int))) ((k.toList.map (rg prog 9 (plainElem (H:=Unit) prog 3))).foldr DataW.insert [])))=(DataW.map ((k.toList.map (rg prog 9 (plainElem (H:=Unit) prog 3))).foldr DataW.insert [])).put (.string s.data.toList) (.lit (.int .i64 (a.length:Int))):=rfl
 rw[r,RX A]
 by_cases f:t=s
 ·subst f
  rw[yz rfl,atKey_put_same ⟨_,rfl⟩ (PX.key b)]
 rw[ym f,atKey_put_other (λe=>f (by simp at e;exact ByteArray.ext (by simpa using e))),j t B]
end Go.Proofs.YtbdfinegbjdblaaGreatDoor
namespace Go.Proofs.YtbdfinegbjdblaaGreatDoor
open Go Go.RowKit Tryz
section
variable{P:Program}{ops:Array Oper}{Q:QT}{md:Region.Mode}{T:World->Prop}{k:Nat}
def BY(P:Program)(md:Region.Mode)(ops:Array Oper)(Q:QT)(T:World->Prop)(k:Nat):Nat->Array Bool->Act->World->Prop
 |0,listed,a,w=>Region.ready md ops listed=[]/\Q .normal a w
 |fuel+1,listed,a,w=>
  (Region.ready md ops listed=[]->Q .normal a w)/\
  ∀i∈Region.ready md ops listed,wpOp P ops Q i (λb w'=>((listed.setIfInBounds i true).getD k true=false->T w')/\BY P md ops Q T k fuel (listed.setIfInBounds i true) b w') a w
theorem JH:∀(fuel:Nat) (listed:Array Bool) (a:Act) (w:World),BY P md ops Q T k fuel listed a w->wpAny P md ops Q fuel listed a w
 |0,_,_,_,h=>h
 |fuel+1,_,_,_,h=>⟨h.1,λi hi=>wpOp_mono (λb w' c=>JH fuel _ b w' c.2) (h.2 i hi)⟩
theorem OW{i:Nat}{s:Oper}{v:Value}(hi:ops[i]?=some s)(m:∀(j:Nat) (o:Oper) cs b,ops[j]?=some o->o.op≠.select cs b)
 (N:∀c a w,Q (.panic c) (a.put s.dst v) w->Q (.panic c) a w)(r:k≠i)(G:∀ok,ops[k]?=some ok->∃e∈ok.after,Region.binds md e=true/\e.on=i):
  ∀(fuel:Nat) (listed:Array Bool) (a:Act) (w:World),
   (∀j p,ops[j]?=some p->j≠i->listed.getD j true=false->(∀e∈p.after,Region.binds md e=true->e.on≠i)->s.apart ops p=true)->
   i∈Region.ready md ops listed->YieldsIf P ops T s v a->listed.getD k true=false->T w->
   BY P md ops Q T k fuel (listed.setIfInBounds i true) (a.put s.dst v) w->BY P md ops Q T k (fuel+1) listed a w:=by
 intro fuel
 induction fuel with
 |zero=>
  intro listed a w _ hr B x y H
  refine ⟨λh=>(by rw[h] at hr;cases hr),λj C=>?_⟩
  by_cases d:j=i
  ·subst d;exact B.wpOp hi y ⟨λ_=>y,H⟩
  have:=ready_mono C d
  rw[H.1] at this
  cases this
 |succ fuel ih=>
  intro listed a w f hr B x y H
  refine ⟨λh=>(by rw[h] at hr;cases hr),λj C=>?_⟩
  by_cases d:j=i
  ·subst d;exact B.wpOp hi y ⟨λ_=>y,H⟩
  have h1:=H.2 j (ready_mono C d)
  obtain ⟨n,p,l,z⟩:=xI.1 C
  have q:∀e∈p.after,Region.binds md e=true->e.on≠i:=λe D hb J=>by
   have h1:=z e D hb
   have h0:=(xI.1 hr).1
   rw[J] at h1
   rcases xp i listed.size with I|I
   ·simp[I] at h0 h1;rw[h0] at h1;cases h1
   simp[qb I] at h1
  have A:k≠j:=λe=>by
   subst e
   obtain ⟨e,D,hb,F⟩:=G p l
   exact q e D hb F
  have h2:=wpOp_putIf l (f j p l d n q) (λcs b=>m i s cs b hi) (λcs b=>m j p cs b l) N B h1
  have g:∀k ok,ops[k]?=some ok->k≠i->(listed.setIfInBounds j true).getD k true=false->
    (∀e∈ok.after,Region.binds md e=true->e.on≠i)->s.apart ops ok=true:=λk ok x r t E=>by
   refine f k ok x r ?_ E
   by_cases u:j=k
   ·subst u;exact n
   rw[xF true u] at t;exact t
  have K:(listed.setIfInBounds j true).getD k true=false:=by rw[xF true (xC A)];exact x
  refine wpOp_mono (λM w' h3=>?_) h2
  have L:T w':=h3.2.1 (by rw[xF true (xC A),xF true (xC r)];exact x)
  refine ⟨λ_=>L,ih (listed.setIfInBounds j true) M w' g (ready_mono hr (xC d)) h3.1 K L ?_⟩
  rw[Array.setIfInBounds_comm _ _ d]
  exact h3.2.2
theorem Nu{i:Nat}{q:Oper}{v:Value}(hi:ops[i]?=some q)(m:∀(j:Nat) (o:Oper) cs b,ops[j]?=some o->o.op≠.select cs b)
 (K:∀c a w,Q (.panic c) (a.put q.dst v) w->Q (.panic c) a w)(g:k≠i):
  ∀(fuel:Nat) (listed:Array Bool) (a:Act) (w:World),
   (∀j p,ops[j]?=some p->j≠i->listed.getD j true=false->(∀e∈p.after,Region.binds md e=true->e.on≠i)->q.apart ops p=true)->
   i∈Region.ready md ops listed->YieldsIf P ops (λ_=>True) q v a->(listed.getD k true=false->T w)->
   BY P md ops Q T k fuel (listed.setIfInBounds i true) (a.put q.dst v) w->BY P md ops Q T k (fuel+1) listed a w:=by
 intro fuel
 induction fuel with
 |zero=>
  intro listed a w _ hr A D H
  refine ⟨λh=>(by rw[h] at hr;cases hr),λj B=>?_⟩
  by_cases d:j=i
  ·subst d;exact A.wpOp hi trivial ⟨λh=>D (by rw[xF true (xC g)] at h;exact h),H⟩
  have:=ready_mono B d
  rw[H.1] at this
  cases this
 |succ fuel ih=>
  intro listed a w f hr A D H
  refine ⟨λh=>(by rw[h] at hr;cases hr),λj B=>?_⟩
  by_cases d:j=i
  ·subst d;exact A.wpOp hi trivial ⟨λh=>D (by rw[xF true (xC g)] at h;exact h),H⟩
  have h1:=H.2 j (ready_mono B d)
  obtain ⟨n,p,r,y⟩:=xI.1 B
  have u:∀e∈p.after,Region.binds md e=true->e.on≠i:=λe G hb E=>by
   have h1:=y e G hb
   have h0:=(xI.1 hr).1
   rw[E] at h1
   rcases xp i listed.size with s|s
   ·simp[s] at h0 h1;rw[h0] at h1;cases h1
   simp[qb s] at h1
  have h2:=wpOp_putIf r (f j p r d n u) (λcs b=>m i q cs b hi) (λcs b=>m j p cs b r) K A h1
  have l:∀k ok,ops[k]?=some ok->k≠i->(listed.setIfInBounds j true).getD k true=false->
    (∀e∈ok.after,Region.binds md e=true->e.on≠i)->q.apart ops ok=true:=λk ok J g t C=>by
   refine f k ok J g ?_ C
   by_cases x:j=k
   ·subst x;exact n
   rw[xF true x] at t;exact t
  refine wpOp_mono (λI w' h3=>?_) h2
  have F:(listed.setIfInBounds j true).getD k true=false->T w':=λh=>h3.2.1 (by
   by_cases z:k=j
   ·subst z
    rcases xp k listed.size with s|s
    ·simp[s] at h
    simp at h
   rw[xF true (xC z)] at h |-
   rw[xF true (xC g)];exact h)
  refine ⟨F,ih (listed.setIfInBounds j true) I w' l (ready_mono hr (xC d)) h3.1 F ?_⟩
  rw[Array.setIfInBounds_comm _ _ d]
  exact h3.2.2
theorem Az{i:Nat}{b:Oper}{v:Value}{fuel:Nat}{listed:Array Bool}{a:Act}{w:World}(hi:ops[i]?=some b)
 (hs:Region.noSelect ops=true)(hf:Region.free md ops listed i=true)(hr:(Region.ready md ops listed).contains i=true)
 (d:∀c a w,Q (.panic c) (a.put b.dst v) w->Q (.panic c) a w)(e:(k !=i)=true)(g:YieldsIf P ops (λ_=>True) b v a)(f:listed.getD k true=false->T w)
 (h:BY P md ops Q T k fuel (listed.setIfInBounds i true) (a.put b.dst v) w):BY P md ops Q T k (fuel+1) listed a w:=
 Nu hi (Region.noSelect_spec hs) d (by simpa using e) fuel listed a w (Region.free_spec hi hf) (by simpa using hr) g f h
def Sd(md:Region.Mode)(ops:Array Oper)(k i:Nat):Bool:=match ops[k]? with
 |none=>false
 |some o=>o.after.any λe=>Region.binds md e&&e.on==i
theorem BR{i:Nat}{b:Oper}{v:Value}{fuel:Nat}{listed:Array Bool}{a:Act}{w:World}(hi:ops[i]?=some b)
 (hs:Region.noSelect ops=true)(hf:Region.free md ops listed i=true)(hr:(Region.ready md ops listed).contains i=true)
 (m:∀c a w,Q (.panic c) (a.put b.dst v) w->Q (.panic c) a w)(d:(k !=i&&!listed.getD k true&&Sd md ops k i)=true)(l:YieldsIf P ops T b v a)(j:T w)
 (h:BY P md ops Q T k fuel (listed.setIfInBounds i true) (a.put b.dst v) w):BY P md ops Q T k (fuel+1) listed a w:=by
 simp only[yw,bne_iff_ne,qR] at d
 refine OW hi (Region.noSelect_spec hs) m d.1.1 (λok f=>?_) fuel listed a w (Region.free_spec hi hf) (by simpa using hr) l d.1.2 j h
 have:=d.2
 unfold Sd at this
 rw[f] at this
 simp only[qu,yw,qi] at this
 obtain ⟨e,g,h1,h2⟩:=this
 exact ⟨e,g,h1,h2⟩
theorem AO{i:Nat}{o:Oper}{fuel:Nat}{listed:Array Bool}{a:Act}{w:World}(hr:Region.ready md ops listed=[i])(c:ops[i]?=some o)
 (h:∀K:Act->World->Prop,Hid (∀a w,((listed.setIfInBounds i true).getD k true=false->T w)->BY P md ops Q T k fuel (listed.setIfInBounds i true) a w->K a w)->if Region.wanted o (yielded ops a.tmps)=true then Oper.wp P o a w K Q else K (a.put o.dst undef) w):BY P md ops Q T k (fuel+1) listed a w:=by
 refine ⟨λh0=>(by rw[hr] at h0;cases h0),λj b=>?_⟩
 rw[hr] at b
 obtain rfl:=zu.1 b
 exact wpOp_step c (λf d=>h f (yb λa w g e=>d a w ⟨g,e⟩))
theorem AP{fuel:Nat}{listed:Array Bool}{a:Act}{w:World}(hr:Region.ready md ops listed=[])(h:Q .normal a w):BY P md ops Q T k fuel listed a w:=by
 cases fuel with
 |zero=>exact ⟨hr,h⟩
 |succ n=>exact ⟨λ_=>h,by rw[hr];simp⟩
theorem Dl{id:Nat}{a:Act}{w:World}(b:P.follows .mixedOrders=true)(T:World->Prop)(k:Nat)
 (h:BY P .any ops Q T k ops.size (Array.replicate ops.size false) a w.drew):(Code.region id ops true).wp P Q a w:=
 wp_region_any b (JH _ _ _ _ h)
end
end Go.Proofs.YtbdfinegbjdblaaGreatDoor
namespace Go.Proofs.YtbdfinegbjdblaaGreatDoor
open Go Tryz
structure KK (ops:Array Oper) (a₀:Act) (Ext:Array Bool->Array Value->World->Prop) (Pp:Nat->Value->World->Prop) (listed:Array Bool) (a:Act) (w:World):Prop where
 size:listed.size=ops.size
 down:∀m,listed.getD m false=true->∀o,ops[m]?=some o->∀e∈o.after,Region.binds .any e=true->listed.getD e.on false=true
 ext:Ext listed a.tmps w
 defers:a.defers=a₀.defers
 tmps:a.tmps.size=a₀.tmps.size
 done:∀i,listed.getD i false=true->∀o t,ops[i]?=some o->o.dst=some t->Pp i (a.tmps.getD t undef) w
 free:∀k,(∀i,listed.getD i false=true->∀o,ops[i]?=some o->o.dst≠some k)->a.tmps.getD k undef=a₀.tmps.getD k undef
theorem Br{a:Act}{t:Nat}(v:Value)(h:t < a.tmps.size):(a.put (some t) v).tmps.getD t undef=v:=by
 simp[Act.put,h]
theorem CI{a:Act}{t k:Nat}(v:Value)(h:t≠k):(a.put (some t) v).tmps.getD k undef=a.tmps.getD k undef:=by
 simp[Act.put,h]
def Gy(ops:Array Oper):Bool:=(ops.toList.filterMap (·.dst)).Nodup&&(List.range ops.size).all λi=>(ops[i]?).all λo=>o.after.all λe=>decide (e.on < i)||!Region.binds .any e
def IF(n:Nat)(ops:Array Oper):Bool:=ops.all λo=>o.dst.all λt=>decide (t < n)
theorem Tk:∀ {l:List Oper},(l.filterMap (·.dst)).Nodup->∀ {i j:Nat} {d c:Oper} {t:Tmp},l[i]?=some d->l[j]?=some c->d.dst=some t->c.dst=some t->i=j
 |[],_,i,_,_,_,_,h,_,_,_=>by simp at h
 |x::r,hn,i,j,d,c,t,hi,b,di,dj=>by
  have hr:(r.filterMap (·.dst)).Nodup:=by
   rw[List.filterMap_cons] at hn
   split at hn
   ·exact hn
   exact (List.nodup_cons.1 hn).2
  have a:∀ {k:Nat} {o:Oper},r[k]?=some o->o.dst=some t->x.dst≠some t:=by
   intro k o f hd e
   rw[List.filterMap_cons,e] at hn
   exact (List.nodup_cons.1 hn).1 (List.mem_filterMap.2 ⟨o,zV f,hd⟩)
  cases i with
  |zero=>
   cases j with
   |zero=>rfl
   |succ j=>
    simp only[xX,zs] at hi
    subst hi
    exact (a (by simpa using b) dj di).elim
  |succ i=>
   cases j with
   |zero=>
    simp only[xX,zs] at b
    subst b
    exact (a (by simpa using hi) di dj).elim
   |succ j=>exact yN (·+1) (Tk hr (by simpa using hi) (by simpa using b) di dj)
variable{P:Program}{ops:Array Oper}{Q:QT}
theorem P3{l:Array Bool}{i:Nat}(h:l.getD i false=true):i < l.size:=by
 rcases xp i l.size with a|a
 ·exact a
 simp[qb a] at h
def Lz(ops:Array Oper):Nat->Nat->Nat->Bool
 |0,_,_=>false
 |f+1,j,i=>(ops[j]?).any λo=>o.after.any λe=>Region.binds .any e&&(e.on==i||Lz ops f e.on i)
theorem Ag{listed:Array Bool}(hd:∀m,listed.getD m false=true->∀o,ops[m]?=some o->∀e∈o.after,Region.binds .any e=true->listed.getD e.on false=true):
  ∀(f j i:Nat),Lz ops f j i=true->listed.getD j false=true->listed.getD i false=true
 |0,_,_,h,_=>by cases h
 |f+1,j,i,h,hj=>by
  rw[Lz] at h
  cases b:ops[j]? with
  |none=>rw[b] at h;cases h
  |some o=>
   rw[b,Option.any_some,qu] at h
   obtain ⟨e,d,a⟩:=h
   simp only[yw,Bool.or_eq_true,qi] at a
   have c:=hd j hj o b e d a.1
   rcases a.2 with h2|h2
   ·rw[<-h2];exact c
   exact Ag hd f e.on i h2 c
theorem KK.next{G:Act}{r:Array Bool->Array Value->World->Prop}{F:Nat->Value->World->Prop}{O:Nat->World->World->Prop}(s:Gy ops=true)(q:IF G.tmps.size ops=true)
 (L:∀i j v w w',j≠i->(∀f,Lz ops f j i=false)->O i w w'->F j v w->F j v w'){listed:Array Bool}{a:Act}{w:World}(h:KK ops G r F listed a w){i:Nat}{o:Oper}(hi:i∈Region.ready .any ops listed)(d:ops[i]?=some o)
 {v:Value}{w':World}(T:r (listed.setIfInBounds i true) (a.put o.dst v).tmps w')(N:O i w w')(W:F i v w'):KK ops G r F (listed.setIfInBounds i true) (a.put o.dst v) w':=by
 obtain ⟨n,x,K,E⟩:=xI.1 hi
 obtain rfl:x=o:=yf (K.symm.trans d)
 have y:i < listed.size:=by rw[h.size];exact (yd.1 d).1
 have l:∀ {m:Nat},(listed.setIfInBounds i true).getD m false=true->m=i\/listed.getD m false=true:=by
  intro m c
  by_cases e:i=m
  ·exact .inl e.symm
  rw[xF false e] at c;exact .inr c
 unfold Gy at s
 rw[yw,yM] at s
 have z:∀ {i j:Nat} {Q P:Oper} {t:Tmp},ops[i]?=some Q->ops[j]?=some P->Q.dst=some t->P.dst=some t->i=j:=λhi V S U=>
  Tk s.1 (by simpa using hi) (by simpa using V) S U
 have J:∀ {i:Nat} {o:Oper} {t:Tmp},ops[i]?=some o->o.dst=some t->t < G.tmps.size:=by
  intro i o t d hd
  unfold IF at q
  rw[zC] at q
  have:=q o (xj d)
  rw[hd] at this
  simpa using this
 refine ⟨by simp[h.size],?_,T,?_,?_,?_,?_⟩
 ·intro m c B b e C hb
  rcases l c with rfl|c
  ·obtain rfl:=yf (b.symm.trans d)
   exact getD_set_true (E e C hb)
  exact getD_set_true (h.down m c B b e C hb)
 ·rw[<-h.defers];unfold Act.put;cases x.dst<;>rfl
 ·rw[<-h.tmps];unfold Act.put;cases x.dst<;>simp
 ·intro m c B t b hd
  by_cases e:m=i
  ·subst e
   obtain rfl:=yf (b.symm.trans d)
   rw[hd,Br _ (by rw[h.tmps];exact J d hd)]
   exact W
  have D:=(l c).resolve_left e
  have H:∀f,Lz ops f m i=false:=by
   intro f
   rw[yB]
   intro hb
   have A:=Ag h.down f m i hb D
   simp[y] at n A
   rw[A] at n;cases n
  have g:=L _ _ _ _ _ e H N (h.done m D B t b hd)
  cases p:x.dst with
  |none=>exact g
  |some u=>
   rw[CI _ (λI=>e (z b d hd (by rw[p,I])))]
   exact g
 intro k R
 have M:=h.free k (λm c B b=>R m (getD_set_true c) B b)
 rw[<-M]
 cases p:x.dst with
 |none=>rfl
 |some u=>
  refine CI _ (λI=>?_)
  refine R i ?_ x d (by rw[p,I])
  simp[y]
theorem Mx(b:Gy ops=true){listed:Array Bool}(hs:listed.size=ops.size)(h:Region.ready .any ops listed=[]):∀i,i < ops.size->listed.getD i false=true:=by
 intro i
 induction i using Nat.strongRecOn with
 |ind i ih=>
  intro hi
  by_cases g:listed.getD i false=true
  ·exact g
  exfalso
  have c:listed.getD i true=false:=by
   have:i < listed.size:=by omega
   simp[this] at g |-
   exact g
  have a:i∈Region.ready .any ops listed:=by
   refine xI.2 ⟨c,ops[i],by simp[hi],λe j f=>?_⟩
   have d:e.on < i:=by
    unfold Gy at b
    rw[yw,zj] at b
    have h1:=b.2 i (zt.2 hi)
    simp only[Array.getElem?_eq_getElem hi,Option.all_some,zC] at h1
    have h2:=h1 e j
    rw[f] at h2
    simpa using h2
   exact ih e.on d (by omega)
  rw[h] at a
  cases a
theorem Uh{y:Act}{k:Array Bool->Array Value->World->Prop}{s:Nat->Value->World->Prop}{C:Nat->World->World->Prop}(x:Gy ops=true)(z:IF y.tmps.size ops=true)
 (A:∀i j v w w',j≠i->(∀f,Lz ops f j i=false)->C i w w'->s j v w->s j v w')
 (q:∀i listed a w,KK ops y k s listed a w->i∈Region.ready .any ops listed->∀o,ops[i]?=some o->wpOp P ops Q i (λD w'=>∃v,D=a.put o.dst v/\k (listed.setIfInBounds i true) (a.put o.dst v).tmps w'/\C i w w'/\s i v w') a w)
 (n:∀listed a w,(∀i,i < ops.size->listed.getD i false=true)->KK ops y k s listed a w->Q .normal a w):
  ∀(fuel:Nat) (listed:Array Bool) (a:Act) (w:World),(∀i,i < ops.size->listed.getD i false=true)\/((List.range ops.size).filter λi=>!listed.getD i false).length<=fuel->KK ops y k s listed a w->wpAny P .any ops Q fuel listed a w:=by
 intro fuel
 induction fuel with
 |zero=>
  intro listed a w hf hM
  have m:∀i,i < ops.size->listed.getD i false=true:=by
   rcases hf with hf|hf
   ·exact hf
   intro i hi
   have h0:=zL.1 (Nat.le_zero.1 hf)
   have:=List.filter_eq_nil_iff.1 h0 i (zt.2 hi)
   simpa using this
  refine ⟨?_,n _ _ _ m hM⟩
  cases hr:Region.ready .any ops listed with
  |nil=>rfl
  |cons i r=>
   exfalso
   have hi:i∈Region.ready .any ops listed:=by rw[hr];simp
   obtain ⟨c,o,u,_⟩:=xI.1 hi
   have b:=(yd.1 u).1
   have:=m i b
   have g:i < listed.size:=by rw[hM.size];exact b
   simp[g] at c this
   rw[this] at c;cases c
 |succ fuel ih=>
  intro listed a w hf hM
  refine ⟨λhr=>n _ _ _ (Mx x hM.size hr) hM,λi hi=>?_⟩
  obtain ⟨c,o,u,_⟩:=xI.1 hi
  have b:=(yd.1 u).1
  have g:i < listed.size:=by rw[hM.size];exact b
  have d:listed.getD i false=false:=by simp[g] at c |-;exact c
  refine wpOp_mono (λD w' G=>?_) (q i listed a w hM hi o u)
  obtain ⟨v,rfl,F,B,I⟩:=G
  refine ih _ _ _ (.inr ?_) (hM.next x z A hi u F B I)
  have H:=hf.resolve_left (λh=>by rw[h i b] at d;cases d)
  have t:((List.range ops.size).filter λj=>!(listed.setIfInBounds i true).getD j false)=((List.range ops.size).filter λj=>!listed.getD j false).filter λj=>decide (j≠i):=by
   rw[List.filter_filter]
   refine List.filter_congr λj _=>?_
   by_cases e:i=j
   ·subst e;simp[g]
   rw[xF false e];simp[xC e]
  rw[t]
  have E:=(List.length_filter_lt_length_iff_exists (p:=λj=>decide (j≠i)) (l:=(List.range ops.size).filter λj=>!listed.getD j false)).2 ⟨i,List.mem_filter.2 ⟨zt.2 b,by rw[d];rfl⟩,by simp⟩
  omega
theorem Gz{id:Nat}{g:Act}{r:World}(t:P.follows .mixedOrders=true)(c:Array Bool->Array Value->World->Prop)(k:Nat->Value->World->Prop)(q:Nat->World->World->Prop)(p:Gy ops=true)(l:IF g.tmps.size ops=true)
 (n:∀i j v w w',j≠i->(∀f,Lz ops f j i=false)->q i w w'->k j v w->k j v w')(h0:c (Array.replicate ops.size false) g.tmps r.drew)
 (e:∀i listed a w,KK ops g c k listed a w->i∈Region.ready .any ops listed->∀o,ops[i]?=some o->wpOp P ops Q i (λs w'=>∃v,s=a.put o.dst v/\c (listed.setIfInBounds i true) (a.put o.dst v).tmps w'/\q i w w'/\k i v w') a w)
 (h:∀listed a w,(∀i,i < ops.size->listed.getD i false=true)->KK ops g c k listed a w->Q .normal a w):(Code.region id ops true).wp P Q g r:=by
 refine wp_region_any t ?_
 have d:∀i,(Array.replicate ops.size false).getD i false=false:=λi=>by
  simp[Array.getElem?_replicate];split<;>rfl
 refine Uh p l n e h ops.size _ g _ (.inr ?_) ⟨by simp,λm b=>?_,h0,rfl,rfl,λm b=>?_,λ_ _=>rfl⟩
 ·exact yG (List.length_filter_le _ _) (by simp)
 ·rw[d] at b;cases b
 rw[d] at b;cases b
def EE(id:Nat):Code->Option (Array Oper)
 |.region i ops _=>if i=id then some ops else none
 |.seq x y=>(EE id x).or (EE id y)
 |.cond _ x y=>(EE id x).or (EE id y)
 |.block _ x=>EE id x
 |.loop x=>EE id x
 |.rangeFunc _ _ x y=>(EE id x).or (EE id y)
 |.scope x=>EE id x
 |_=>none
def Fm(f:Func)(id:Nat):Option (Array Oper):=f.body.bind (EE id)
def VV(c:Array Value->World->Prop)(d:World->World->Prop)(f:Value->World->Prop)(b:Option Tmp)(a:Act)(w:World)(e:Act)(w':World):Prop:=
 ∃v,e=a.put b v/\c (a.put b v).tmps w'/\d w w'/\f v w'
def JM(ops:Array Oper):Bool:=ops.all λo=>o.guard.isNone
theorem G1{id:Nat}{h:Act}{q:World}(r:P.follows .mixedOrders=true)(b:Array Bool->Array Value->World->Prop)(e:Nat->Value->World->Prop)(k:Nat->World->World->Prop)(p:Gy ops=true)(l:IF h.tmps.size ops=true)
 (c:JM ops=true)(m:∀i j v w w',j≠i->(∀f,Lz ops f j i=false)->k i w w'->e j v w->e j v w')(h0:b (Array.replicate ops.size false) h.tmps q.drew)
 (d:∀i listed a w,KK ops h b e listed a w->i∈Region.ready .any ops listed->∀o,ops[i]?=some o->o.wp P a w (VV (b (listed.setIfInBounds i true)) (k i) (e i) o.dst a w) Q)
 (g:∀listed a w,(∀i,i < ops.size->listed.getD i false=true)->KK ops h b e listed a w->Q .normal a w):(Code.region id ops true).wp P Q h q:=by
 refine Gz r b e k p l m h0 (λi listed a w hM hi o n=>?_) g
 unfold wpOp
 rw[n]
 have hg:o.guard=none:=by
  unfold JM at c
  rw[zC] at c
  simpa using c o (xj n)
 have hw:Region.wanted o (yielded ops a.tmps)=true:=by simp[Region.wanted,hg]
 simp only[hw,xi]
 exact .inl (d i listed a w hM hi o n)
theorem KK.dep{n:Act}{f:Array Bool->Array Value->World->Prop}{k:Nat->Value->World->Prop}{listed:Array Bool}{a:Act}{w:World}(h:KK ops n f k listed a w){i:Nat}(hi:i∈Region.ready .any ops listed)
 (j:Nat)(t:Tmp)(hb:((ops[i]?).any λo=>o.after.any λe=>e.on==j&&Region.binds .any e)=true)(hd:(ops[j]?).bind (·.dst)=some t):k j (a.tmps[t]?.getD undef) w:=by
 rw[<-yI]
 obtain ⟨_,o,m,c⟩:=xI.1 hi
 rw[m,Option.any_some,qu] at hb
 obtain ⟨e,l,b⟩:=hb
 simp only[yw,qi] at b
 obtain ⟨rfl,d⟩:=b
 cases g:ops[e.on]? with
 |none=>rw[g] at hd;cases hd
 |some oj=>
  rw[g,zS] at hd
  exact h.done e.on (c e l d) oj t g hd
theorem KK.came{k:Act}{d:Array Bool->Array Value->World->Prop}{h:Nat->Value->World->Prop}{listed:Array Bool}{a:Act}{w:World}(_:KK ops k d h listed a w){i:Nat}(hi:i∈Region.ready .any ops listed)
 (j:Nat)(hb:((ops[i]?).any λo=>o.after.any λe=>e.on==j&&Region.binds .any e)=true):listed.getD j false=true:=by
 obtain ⟨_,o,g,c⟩:=xI.1 hi
 rw[g,Option.any_some,qu] at hb
 obtain ⟨e,f,b⟩:=hb
 simp only[yw,qi] at b
 rw[<-b.1]
 exact c e f b.2
theorem KK.not_yet{g:Act}{c:Array Bool->Array Value->World->Prop}{f:Nat->Value->World->Prop}{listed:Array Bool}{a:Act}{w:World}(h:KK ops g c f listed a w){i:Nat}(hi:i∈Region.ready .any ops listed):listed.getD i false=false:=by
 obtain ⟨b,o,e,_⟩:=xI.1 hi
 have d:i < listed.size:=by rw[h.size];exact (yd.1 e).1
 simp[d] at b |-
 exact b
theorem KK.old{n:Act}{j:Array Bool->Array Value->World->Prop}{s:Nat->Value->World->Prop}{listed:Array Bool}{a:Act}{w:World}(h:KK ops n j s listed a w){i:Nat}(hi:i∈Region.ready .any ops listed)
 (k:Tmp)(hb:(ops.all λo=>o.dst !=some k||o.after.any λe=>e.on==i&&Region.binds .any e)=true)(v:Value)(r:n.tmps.getD k undef=v):a.tmps[k]?.getD undef=v:=by
 rw[<-yI,<-r]
 refine h.free k λm q l f hd=>?_
 rw[zC] at hb
 have:=hb l (xj f)
 rw[hd] at this
 simp only[bne_self_eq_false,Bool.false_or,qu] at this
 obtain ⟨e,p,d⟩:=this
 simp only[yw,qi] at d
 have b:=h.down m q l f e p d.2
 rw[d.1] at b
 have c:=(xI.1 hi).1
 have g:=P3 b
 simp[g] at c b
 rw[b] at c;cases c
theorem Kg{a b:Act}(D:List Nat)(hs:a.tmps.size=b.tmps.size)(hd:a.defers=b.defers)(hf:∀k,k∉D->a.tmps.getD k undef=b.tmps.getD k undef):
  a={tmps:=D.foldl (λt k=>t.setIfInBounds k (a.tmps.getD k undef)) b.tmps,defers:=b.defers}:=by
 have c:∀(D:List Nat) (t:Array Value),t.size=a.tmps.size->(∀k,k∉D->a.tmps.getD k undef=t.getD k undef)->a.tmps=D.foldl (λt k=>t.setIfInBounds k (a.tmps.getD k undef)) t:=by
  intro D
  induction D with
  |nil=>
   intro t f h
   apply Array.ext f.symm
   intro i h1 h2
   have:=h i (by simp)
   simpa[h1,h2] using this
  |cons x r ih=>
   intro t f h
   rw[List.foldl_cons]
   refine ih _ (by simp[f]) λk j=>?_
   by_cases e:x=k
   ·subst e
    by_cases g:x < t.size
    ·simp[g]
    simp[qb (show a.tmps.size<=x by omega)]
   rw[h k (by simp[j,xC e])]
   simp[e]
 obtain ⟨t,d⟩:=a
 simp only at hd
 subst hd
 exact yN (λt=>({tmps:=t,defers:=b.defers}:Act)) (c D b.tmps hs.symm hf)
end Go.Proofs.YtbdfinegbjdblaaGreatDoor
namespace Go.Proofs.YtbdfinegbjdblaaGreatDoor
open Go.RowKit Tryz
structure Rt where
 n:Int
 d:Int
def Ja:Rt:=⟨0,0⟩
def Dv:Int:=1073741824
def AJ(a:Rt):Bool:=decide (1<=a.d)&&(decide (a.d<=Dv)&&(decide (-Dv<=a.n)&&(decide (a.n<=Dv)&&decide (Int.gcd a.n a.d=1))))
def Gm(n d:Int):Rt × Int:=
 if d=0 then (Ja,120)
 else if Dv < max ((n.natAbs / Int.gcd n d:Nat):Int) ((d.natAbs / Int.gcd n d:Nat):Int) then (Ja,2)
 else (⟨if (decide (n < 0) !=decide (d < 0))=true then -((n.natAbs / Int.gcd n d:Nat):Int) else ((n.natAbs / Int.gcd n d:Nat):Int),((d.natAbs / Int.gcd n d:Nat):Int)⟩,0)
def FK(op:Int)(a b:Rt):Int × Int:=
 if op=3 then (a.n*b.d+b.n*a.d,a.d*b.d) else if op=4 then (a.n*b.d - b.n*a.d,a.d*b.d) else if op=5 then (a.n*b.n,a.d*b.d) else (a.n*b.d,a.d*b.n)
def RF(op:Int)(a b:Rt):Rt × Int:=if (AJ a&&AJ b)=true then Gm (FK op a b).1 (FK op a b).2 else (Ja,120)
structure Dm where
 l:Int
 h:Int
 a:Int
deriving DecidableEq
def VZ:Dm:=⟨0,0,0⟩
def Vi(n:Int):Bool:=decide (-4<=n)&&decide (n<=4)
def Ih(d:Dm):Bool:=Vi d.l&&(Vi d.h&&Vi d.a)
def Uj(s:Int)(a b:Dm):Dm:=⟨a.l+s*b.l,a.h+s*b.h,a.a+s*b.a⟩
def To(op:Int)(a b:Dm):Dm × Bool:=
 if op=3\/op=4 then (a,decide (a=b)) else
 let d:=Uj (if op=5 then 1 else -1) a b
 if Ih d then (d,true) else (VZ,false)
structure Qn where
 dim:Dm
 v:Rt
 e:Int
def Ge:Qn:=⟨VZ,Ja,0⟩
structure Kn where
 name:ByteArray
 q:Qn
 ok:Bool
def II(u:Int):Dm:=if u=1\/u=2 then ⟨1,0,0⟩ else if u=3\/u=4 then ⟨0,1,0⟩ else if u=5 then ⟨0,0,1⟩ else VZ
def Fo(u:Int):Int:=if u=2 then 1000 else if u=4 then 24 else 1
def Qr:Int:=1099511627776
def Ny(n u:Int):Qn:=if Dv / Fo u < n then ⟨II u,Ja,2⟩ else ⟨II u,⟨Fo u*n,1⟩,0⟩
def Dw(rn:ByteArray)(ri:Int):Bool:=decide (rn.size=0/\ri=0)
def Yz(op:Int)(a b:Qn × Bool):Qn × Bool:=
 if (a.2&&b.2)=true then
  (let d:=To op a.1.dim b.1.dim
  if d.2=true then
   (if a.1.e≠0 then (⟨d.1,Ja,a.1.e⟩,true) else if b.1.e≠0 then (⟨d.1,Ja,b.1.e⟩,true) else (⟨d.1,(RF op a.1.v b.1.v).1,(RF op a.1.v b.1.v).2⟩,true))
  else (Ge,false))
 else (Ge,false)
def Jz(a:List Kn)(rn:ByteArray)(ri:Int):Qn × Bool:=match a[ri.toNat]? with
 |some k=>if k.name=rn/\0<=ri then (k.q,k.ok) else (Ge,false)
 |none=>(Ge,false)
def XF(op n u:Int)(rn:ByteArray)(ri:Int):Bool:=decide (3<=op)&&(decide (op<=6)&&(decide (n=0)&&(decide (u=0)&&Dw rn ri)))
def Gc(a:List Kn):Nat->Ex->Qn × Bool
 |left,.mk op n u rn ri args=>
  if op=1 then (if args.length=0/\Dw rn ri=true/\0<=n/\n<=Qr/\0<=u/\u<=5 then (Ny n u,true) else (Ge,false))
  else if op=2 then (if args.length=0/\n=0/\u=0 then Jz a rn ri else (Ge,false))
  else match left,args with
   |left+1,[x,y]=>if XF op n u rn ri=true then Yz op (Gc a left x) (Gc a left y) else (Ge,false)
   |_,_=>(Ge,false)
def AK:List Kn->List (ByteArray × Ex)->List Kn
 |l,[]=>l
 |l,d::r=>AK (l++[⟨d.1,(Gc l 8 d.2).1,(Gc l 8 d.2).2⟩]) r
def Tp(a b:Qn × Bool):Prop:=a.2=b.2/\a.1.dim=b.1.dim/\a.1.v=b.1.v/\(a.1.e=0↔b.1.e=0)
theorem Tp.trans{a b c:Qn × Bool}(h:Tp a b)(k:Tp b c):Tp a c:=⟨h.1.trans k.1,h.2.1.trans k.2.1,h.2.2.1.trans k.2.2.1,h.2.2.2.trans k.2.2.2⟩
theorem P6(a:List Kn)(l:Nat)(n u:Int)(rn:ByteArray)(ri:Int)(args:List Ex):Gc a l (.mk 1 n u rn ri args)=if args.length=0/\Dw rn ri=true/\0<=n/\n<=Qr/\0<=u/\u<=5 then (Ny n u,true) else (Ge,false):=by
 unfold Gc
 rfl

def EP(a b:Nat):List Nat:=
 if a=0 then [] else if _h:b=0 then [a,0] else a::(if a % b=0 then [b] else EP b (a % b))
 termination_by b
 decreasing_by exact qP _ (Nat.pos_of_ne_zero (by assumption))
def JA(d:Nat):List Nat->Nat
 |[]=>d
 |x::r=>JA x r
theorem Qs{l:List Nat}(h:l≠ [])(d e:Nat):JA d l=JA e l:=by
 cases l with
 |nil=>exact absurd rfl h
 |cons x r=>rfl
theorem Tq{a b:Nat}(h:a≠0):EP a b≠ []:=by
 rw[EP,ym h]
 split<;>simp
theorem W7:∀(b a:Nat),b≠0->JA b (EP a b)=Nat.gcd a b:=by
 intro b
 induction b using Nat.strongRecOn with
 |_ b ih=>
  intro a hb
  rw[EP]
  by_cases d:a=0
  ·rw[yz d,d,Nat.gcd_zero_left];rfl
  rw[ym d,dif_neg hb]
  by_cases c:a % b=0
  ·rw[yz c]
   show b=Nat.gcd a b
   exact (Nat.gcd_eq_right (Nat.dvd_of_mod_eq_zero c)).symm
  rw[ym c]
  show JA a (EP b (a % b))=Nat.gcd a b
  rw[Qs (Tq hb) a (a % b),ih (a % b) (qP _ (Nat.pos_of_ne_zero hb)) b c,Nat.gcd_comm a b,Nat.gcd_rec b a,Nat.gcd_comm]
end Go.Proofs.YtbdfinegbjdblaaGreatDoor
namespace Go.Proofs.YtbdfinegbjdblaaGreatDoor
open Go.RowKit Go.ChangeShapes Go.WideShapes Go.Deep Tryz
theorem Tr{α:Type}{P:Nat->α->Prop}:∀n:Nat,(∀i,i < n->∃t,P i t)->∃ts:List α,ts.length=n/\∀i (h:i < ts.length),P i ts[i]
 |0,_=>⟨[],rfl,λi h=>by simp at h⟩
 |n+1,h=>by
  obtain ⟨ts,b,d⟩:=Tr n (λi hi=>h i (by omega))
  obtain ⟨t,c⟩:=h n (by omega)
  refine ⟨ts++[t],by simp[b],λi hi=>?_⟩
  by_cases a:i < ts.length
  ·rw[qo a];exact d i a
  have e:i=ts.length:=by simp at hi;omega
  subst e
  simp only[qj (yi _),Nat.sub_self,qA]
  rw[b];exact c
theorem IK{H:Type}{P:Program}{e:TypeId}{d:DataW H}{n:Nat}:∀ {l:List (DataW H)},d∈l->n∈d.weights P e->n∈DataW.weightsAll P e l
 |[],h,_=>by simp at h
 |x::r,h,hn=>by
  simp only[DataW.weightsAll,yO]
  rcases yq.1 h with rfl|h
  ·exact .inl hn
  exact .inr (IK h hn)
theorem Ts{w:World}{a:Addr}{v:Value}(h:w.cell? a=some v):a.block < w.heap.size:=by
 rcases xp a.block w.heap.size with b|b
 ·exact b
 simp[World.cell?,qb b] at h
theorem Um:prog.cellsOf 3=1:=by kernel_rfl
section
variable{H:Type}{enc:TypeId × Value->H}{W:World}
def Wt(t:TypeId)(d:DataW H):Prop:=∀k∈d.weights prog t,k<=reachBytes
def bI(W:World)(b:Nat):Prop:=b < W.heap.size
theorem IL{α:Type}{t e:TypeId}{sz:Nat}{Pr:LV->α->Prop}(C:prog.underlying t=some (.slice e))(D:prog.cellsOf e=sz)(E:0 < prog.bytesOf e)(B:0 < sz){fuel:Nat}{x0:Value}{d:DataW H}{ps:List MemPlace}
 (V:∀n,n < fuel->∀cs d ps,DataW.trod enc prog W 0 (λ_=>true) true n e cs=some (d,ps)->Wt e d->cs.length=sz->∃x,Pr cs x)
 (h:DataW.trod enc prog W 0 (λ_=>true) true fuel t [x0]=some (d,ps))(hw:Wt t d):∃(hd:AA) (l:List α),x0=hd.v/\Bg (bI W) W sz Pr hd l/\hd.n<=hd.c/\l.length*prog.bytesOf e<=140737488355328:=by
 rcases DataW.trod_slice C h with ⟨o,_⟩|⟨a,len,cap,f,rest,n,R,o,K,hb,N,hm,P,A,_,_⟩
 ·obtain rfl:x0=.slice none 0 0:=(yT o).1
  exact ⟨⟨none,0,0⟩,[],rfl,⟨rfl,by simp,λi h=>by simp at h⟩,yi _,by simp⟩
 obtain rfl:x0=.slice (some a) len cap:=(yT o).1
 simp only[qg] at K
 have J:(f.length+rest.length)*prog.bytesOf e<=140737488355328:=by
  have h1:=hw ((f.length+rest.length)*prog.bytesOf e) (by
   rw[K.1,DataW.weights,C]
   simp)
  have h2:reachBytes < 2 ^ 47:=reachBytes_lt
  omega
 have m:len*prog.bytesOf e<=140737488355328:=yG (xT _ (by omega)) J
 have M:len<=140737488355328:=yG (Nat.le_mul_of_pos_right _ E) m
 have u:∀i,i < len->∃q:LV × α,q.1.length=sz/\(∀j,j < sz->W.cell? ((a.add (i*sz)).add j)=q.1[j]?)/\Pr q.1 q.2:=by
  intro i hi
  have h1:=A i hi
  have h2:f[i]?=some (f[i]'(by omega)):=yk _
  rw[h2,D] at h1
  obtain ⟨cs,hc,G⟩:=Option.bind_eq_some_iff.1 h1
  obtain ⟨_,w,y⟩:=World.cells?_some hc
  obtain ⟨x,L⟩:=V n (by omega) cs _ _ G (λk Y=>hw k (by
   rw[K.1,DataW.weights,C]
   exact zP _ (yO.2 (.inl (IK (xS.2 ⟨_,yR (by omega),rfl⟩) Y))))) w
  exact ⟨(cs,x),w,y,L⟩
 by_cases h0:len=0
 ·subst h0
  exact ⟨⟨some a,0,cap⟩,[],rfl,⟨rfl,by simp,λi h=>by simp at h⟩,N,by simp⟩
 obtain ⟨z,I,L⟩:=Tr len u
 obtain ⟨T,l0,c0,_⟩:=u 0 (by omega)
 have r:W.cell? a=some (T.1[0]'(by omega)):=by
  have:=c0 0 B
  rw[yk (by omega)] at this
  simpa[Addr.add] using this
 have g:a.spot=none:=World.cell?_spot r
 have p:a.block < W.heap.size:=Ts r
 obtain ⟨b,s,O⟩:=a
 simp only at g p
 subst g
 refine ⟨⟨some (aV b s),len,cap⟩,z.map (·.2),rfl,⟨by simp[I],by simp[I];omega,λi hi=>?_⟩,N,by rw[zh,I];exact m⟩
 have F:i < z.length:=by simpa using hi
 obtain ⟨S,Z,X⟩:=L i F
 refine ⟨b,s,(z[i]).1,rfl,p,S,λj v Q=>?_,by simpa using X⟩
 have U:=(yF.1 Q).1
 have:=Z j (by omega)
 rw[Q] at this
 simpa[zO,xw] using this
theorem H9{fuel:Nat}{cs:LV}{d:DataW H}{ps:List MemPlace}(h:DataW.trod enc prog W 0 (λ_=>true) true fuel 9 cs=some (d,ps)):∃s:ByteArray,cs=[.string s]/\s.size<=maxLen:=by
 obtain ⟨s,h1,_,h2⟩:=DataW.trod_string jC h
 exact ⟨s,h1,h2⟩
theorem AY{fuel:Nat}{cs:LV}{d:DataW H}{ps:List MemPlace}(h:DataW.trod enc prog W 0 (λ_=>true) true fuel 3 cs=some (d,ps)):∃z,cs=[.int .i64 z]:=by
 obtain ⟨z,h1,_⟩:=DataW.trod_int je h
 exact ⟨z,h1⟩
end
end Go.Proofs.YtbdfinegbjdblaaGreatDoor
namespace Go.Proofs.YtbdfinegbjdblaaGreatDoor
open Go.RowKit Tryz
mutual
def We(k:Nat):Ex->Prop
 |.mk op _ _ _ ri args=>(op=2->0<=ri/\ri < (k:Int))/\Tt k args
def Tt(k:Nat):List Ex->Prop
 |[]=>True
 |e::r=>We k e/\Tt k r
end
theorem P9(a:List Kn)(l:Nat)(n u:Int)(rn:ByteArray)(ri:Int)(args:List Ex):Gc a l (.mk 2 n u rn ri args)=if args.length=0/\n=0/\u=0 then Jz a rn ri else (Ge,false):=by
 unfold Gc
 rfl
theorem Pa(a:List Kn)(l:Nat){op:Int}(h1:op≠1)(h2:op≠2)(n u:Int)(rn:ByteArray)(ri:Int)(x y:Ex):Gc a (l+1) (.mk op n u rn ri [x,y])=if XF op n u rn ri=true then Yz op (Gc a l x) (Gc a l y) else (Ge,false):=by
 conv=>lhs;unfold Gc
 rw[ym h1,ym h2]
theorem LU(a:List Kn)(l:Nat){op:Int}(h1:op≠1)(h2:op≠2)(n u:Int)(rn:ByteArray)(ri:Int)(args:List Ex)(h:l=0\/args.length≠2):Gc a l (.mk op n u rn ri args)=(Ge,false):=by
 conv=>lhs;unfold Gc
 rw[ym h1,ym h2]
 match l,args,h with
 |0,_,_=>rfl
 |l+1,[],_=>rfl
 |l+1,[x],_=>rfl
 |l+1,[x,y],h=>rcases h with h|h<;>simp at h
 |l+1,x::y::z::r,_=>rfl
theorem Jc:∀(ds:List (ByteArray × Ex)) (l:List Kn),(AK l ds).length=l.length+ds.length
 |[],l=>by rw[AK];simp
 |d::r,l=>by rw[AK,Jc r];simp;omega
section
variable{lets:List (ByteArray × Ex)}(hr:∀(i:Nat) d,lets[i]?=some d->We i d.2)
include hr
end
end Go.Proofs.YtbdfinegbjdblaaGreatDoor
namespace Go.Proofs.YtbdfinegbjdblaaGreatDoor
open Go Tryz
theorem JO{P:Program}{o:Oper}{a:Act}{w:World}{K:Act->World->Prop}{Q:QT}{l n:Nat}(hd:∀c,o.op≠.defer c)(h:Oper.wp P o a w K Q):Oper.wpIn (Fence.wide.inRound l) n P o a w K Q:=by
 refine ⟨λ_ _=>trivial,?_⟩
 rw[Fence.inRound_round,zK l a.eval o hd]
 unfold Oper.wp at h
 generalize (execOp a.eval o).run P w=r at h |-
 cases r with
 |ok x w'=>
  cases x with
  |value v=>exact h
  |skip=>exact h
  |defer d=>exact h
  |enter f args=>exact ⟨λh=>(by cases h),zi.2 h⟩
  |row r args=>exact ⟨λh=>(by cases h),λc cs _=>let ⟨v,w2,q,s⟩:=h c cs;⟨v,w2,q,stepsIn_wide.2 s⟩⟩
  |_=>exact h.elim
 |halt x w'=>cases x<;>exact h
def Qz(ops:Array Oper):Bool:=ops.all λo=>match o.op with
 |.defer _=>false
 |_=>true
section
variable{F:Fence}{n:Nat}{P:Program}{ops:Array Oper}{Q:QT}
theorem QA{z:Act}{k:Array Bool->Array Value->World->Prop}{t:Nat->Value->World->Prop}{D:Nat->World->World->Prop}(y:Gy ops=true)(A:IF z.tmps.size ops=true)
 (B:∀i j v w w',j≠i->(∀f,Lz ops f j i=false)->D i w w'->t j v w->t j v w')
 (s:∀i listed a w,KK ops z k t listed a w->i∈Region.ready .any ops listed->∀o,ops[i]?=some o->wpOpIn F n P ops Q i (λE w'=>∃v,E=a.put o.dst v/\k (listed.setIfInBounds i true) (a.put o.dst v).tmps w'/\D i w w'/\t i v w') a w)
 (q:∀listed a w,(∀i,i < ops.size->listed.getD i false=true)->KK ops z k t listed a w->Q .normal a w):
  ∀(fuel:Nat) (listed:Array Bool) (a:Act) (w:World),(∀i,i < ops.size->listed.getD i false=true)\/((List.range ops.size).filter λi=>!listed.getD i false).length<=fuel->KK ops z k t listed a w->wpAnyIn F n P .any ops Q fuel listed a w:=by
 intro fuel
 induction fuel with
 |zero=>
  intro listed a w hf hM
  have m:∀i,i < ops.size->listed.getD i false=true:=by
   rcases hf with hf|hf
   ·exact hf
   intro i hi
   have h0:=zL.1 (Nat.le_zero.1 hf)
   have:=List.filter_eq_nil_iff.1 h0 i (zt.2 hi)
   simpa using this
  refine ⟨?_,q _ _ _ m hM⟩
  cases hr:Region.ready .any ops listed with
  |nil=>rfl
  |cons i r=>
   exfalso
   have hi:i∈Region.ready .any ops listed:=by rw[hr];simp
   obtain ⟨c,o,x,_⟩:=xI.1 hi
   have b:=(yd.1 x).1
   have:=m i b
   have g:i < listed.size:=by rw[hM.size];exact b
   simp[g] at c this
   rw[this] at c;cases c
 |succ fuel ih=>
  intro listed a w hf hM
  refine ⟨λhr=>q _ _ _ (Mx y hM.size hr) hM,λi hi=>?_⟩
  obtain ⟨c,o,x,_⟩:=xI.1 hi
  have b:=(yd.1 x).1
  have g:i < listed.size:=by rw[hM.size];exact b
  have d:listed.getD i false=false:=by simp[g] at c |-;exact c
  refine wpOpIn_mono (λE w' I=>?_) (s i listed a w hM hi o x)
  obtain ⟨v,rfl,H,C,K⟩:=I
  refine ih _ _ _ (.inr ?_) (hM.next y A B hi x H C K)
  have J:=hf.resolve_left (λh=>by rw[h i b] at d;cases d)
  have u:((List.range ops.size).filter λj=>!(listed.setIfInBounds i true).getD j false)=((List.range ops.size).filter λj=>!listed.getD j false).filter λj=>decide (j≠i):=by
   rw[List.filter_filter]
   refine List.filter_congr λj _=>?_
   by_cases e:i=j
   ·subst e;simp[g]
   rw[xF false e];simp[xC e]
  rw[u]
  have G:=(List.length_filter_lt_length_iff_exists (p:=λj=>decide (j≠i)) (l:=(List.range ops.size).filter λj=>!listed.getD j false)).2 ⟨i,List.mem_filter.2 ⟨zt.2 b,by rw[d];rfl⟩,by simp⟩
  omega
theorem LC{id:Nat}{g:Act}{s:World}(u:P.follows .mixedOrders=true)(c:Array Bool->Array Value->World->Prop)(k:Nat->Value->World->Prop)(r:Nat->World->World->Prop)(q:Gy ops=true)(l:IF g.tmps.size ops=true)
 (p:∀i j v w w',j≠i->(∀f,Lz ops f j i=false)->r i w w'->k j v w->k j v w')(h0:c (Array.replicate ops.size false) g.tmps s.drew)
 (e:∀i listed a w,KK ops g c k listed a w->i∈Region.ready .any ops listed->∀o,ops[i]?=some o->wpOpIn F n P ops Q i (λt w'=>∃v,t=a.put o.dst v/\c (listed.setIfInBounds i true) (a.put o.dst v).tmps w'/\r i w w'/\k i v w') a w)
 (h:∀listed a w,(∀i,i < ops.size->listed.getD i false=true)->KK ops g c k listed a w->Q .normal a w):(Code.region id ops true).wpIn F n P Q g s:=by
 refine wpIn_region_any u ?_
 have d:∀i,(Array.replicate ops.size false).getD i false=false:=λi=>by
  simp[Array.getElem?_replicate];split<;>rfl
 refine QA q l p e h ops.size _ g _ (.inr ?_) ⟨by simp,λm b=>?_,h0,rfl,rfl,λm b=>?_,λ_ _=>rfl⟩
 ·exact yG (List.length_filter_le _ _) (by simp)
 ·rw[d] at b;cases b
 rw[d] at b;cases b
end
section
variable{n:Nat}{P:Program}{ops:Array Oper}{Q:QT}
theorem Ha{id l:Nat}{m:Act}{u:World}(x:P.follows .mixedOrders=true)(b:Array Bool->Array Value->World->Prop)(h:Nat->Value->World->Prop)(q:Nat->World->World->Prop)(t:Gy ops=true)(r:IF m.tmps.size ops=true)
 (d:JM ops=true)(e:Qz ops=true)(s:∀i j v w w',j≠i->(∀f,Lz ops f j i=false)->q i w w'->h j v w->h j v w')(h0:b (Array.replicate ops.size false) m.tmps u.drew)
 (g:∀i listed a w,KK ops m b h listed a w->i∈Region.ready .any ops listed->∀o,ops[i]?=some o->o.wp P a w (VV (b (listed.setIfInBounds i true)) (q i) (h i) o.dst a w) Q)
 (k:∀listed a w,(∀i,i < ops.size->listed.getD i false=true)->KK ops m b h listed a w->Q .normal a w):(Code.region id ops true).wpIn (Fence.wide.inRound l) n P Q m u:=by
 refine LC x b h q t r s h0 (λi listed a w hM hi o p=>?_) k
 unfold wpOpIn
 rw[p]
 have hg:o.guard=none:=by
  unfold JM at d
  rw[zC] at d
  simpa using d o (xj p)
 have hw:Region.wanted o (yielded ops a.tmps)=true:=by simp[Region.wanted,hg]
 simp only[hw,xi]
 refine JO (λc hc=>?_) (g i listed a w hM hi o p)
 unfold Qz at e
 rw[zC] at e
 have h2:=e o (xj p)
 rw[hc] at h2
 cases h2
end
end Go.Proofs.YtbdfinegbjdblaaGreatDoor
namespace Go.Proofs.YtbdfinegbjdblaaGreatDoor
open Go Go.RowKit Tryz
section
variable{P:Program}{ops:Array Oper}{Q:QT}{md:Region.Mode}{T:World->Prop}{k:Nat}
def Kp(md:Region.Mode)(ops:Array Oper)(k:Nat):List (Nat × Nat)->Array Bool->Bool
 |[],_=>true
 |(i,t)::r,l=>(match ops[i]? with
  |none=>false
  |some o=>o.guard.isNone&&o.dst==some t)&&(Region.free md ops l i&&((Region.ready md ops l).contains i&&((k !=i&&!l.getD k true&&Sd md ops k i)&&Kp md ops k r (l.setIfInBounds i true))))
def MT:List (Nat × Nat × Value)->Array Bool->Array Bool
 |[],l=>l
 |(i,_,_)::r,l=>MT r (l.setIfInBounds i true)
def Cs:List (Nat × Nat × Value)->Act->Act
 |[],a=>a
 |(_,t,v)::r,a=>Cs r (a.put (some t) v)
def Ct(P:Program)(ops:Array Oper)(T:World->Prop):List (Nat × Nat × Value)->Act->Prop
 |[],_=>True
 |(i,t,v)::r,a=>(∀o,ops[i]?=some o->∀w,T w->(execOp a.eval o).run P w=.ok (.value v) w)/\Ct P ops T r (a.put (some t) v)
theorem BN(hs:Region.noSelect ops=true)(e:∀c a t v w,Q (.panic c) (Act.put a (some t) v) w->Q (.panic c) a w){w:World}(d:T w):∀(l:List (Nat × Nat × Value)) (fuel:Nat) (listed:Array Bool) (a:Act),Kp md ops k (l.map λx=>(x.1,x.2.1)) listed=true->Ct P ops T l a->BY P md ops Q T k fuel (MT l listed) (Cs l a) w->BY P md ops Q T k (fuel+l.length) listed a w
 |[],_,_,_,_,_,h=>h
 |(i,t,v)::r,fuel,listed,a,hok,hy,h=>by
  simp only[zN,Kp,yw] at hok
  obtain ⟨h1,h2,h3,f,g⟩:=hok
  cases b:ops[i]? with
  |none=>rw[b] at h1;cases h1
  |some o=>
   rw[b] at h1
   simp only[yw,qi,Option.isNone_iff_eq_none] at h1
   have hd:a.put (some t) v=a.put o.dst v:=by rw[h1.2]
   refine BR (i:=i) (v:=v) b hs h2 h3 (λc a w h=>by rw[h1.2] at h;exact e _ _ _ _ _ h) (by simpa only[yw] using f) (.inl ⟨by unfold Region.wanted;rw[h1.1],hy.1 o b⟩) d ?_
   rw[<-hd]
   exact BN hs e d r fuel _ _ g hy.2 h
theorem Aq{i:Nat}{o:Oper}{fuel:Nat}{listed:Array Bool}{a:Act}{w:World}(hr:Region.ready md ops listed=[i])(b:ops[i]?=some o)(hg:o.guard=none)
 (h:∀K:Act->World->Prop,Hid (∀a w,((listed.setIfInBounds i true).getD k true=false->T w)->BY P md ops Q T k fuel (listed.setIfInBounds i true) a w->K a w)->Oper.wp P o a w K Q):BY P md ops Q T k (fuel+1) listed a w:=
 AO hr b λK c=>by
  rw[yz (by unfold Region.wanted;rw[hg])]
  exact h K c
theorem MU{i j:Nat}{o b:Oper}{fuel:Nat}{listed:Array Bool}{a:Act}{w:World}(hr:Region.ready md ops listed=[i,j])(p:ops[i]?=some o)(e:ops[j]?=some b)
 (h:∀K:Act->World->Prop,Hid (∀a w,((listed.setIfInBounds i true).getD k true=false->T w)->BY P md ops Q T k fuel (listed.setIfInBounds i true) a w->K a w)->if Region.wanted o (yielded ops a.tmps)=true then Oper.wp P o a w K Q else K (a.put o.dst undef) w)
 (n:∀K:Act->World->Prop,Hid (∀a w,((listed.setIfInBounds j true).getD k true=false->T w)->BY P md ops Q T k fuel (listed.setIfInBounds j true) a w->K a w)->if Region.wanted b (yielded ops a.tmps)=true then Oper.wp P b a w K Q else K (a.put b.dst undef) w):BY P md ops Q T k (fuel+1) listed a w:=by
 refine ⟨λh0=>(by rw[hr] at h0;cases h0),λm c=>?_⟩
 rw[hr] at c
 rcases yq.1 c with rfl|c
 ·exact wpOp_step p (λf d=>h f (yb λa w g l=>d a w ⟨g,l⟩))
 obtain rfl:=zu.1 c
 exact wpOp_step e (λf d=>n f (yb λa w g l=>d a w ⟨g,l⟩))
theorem Cu{id:Nat}{a:Act}{w:World}(g:P.follows .mixedOrders=true)(T:World->Prop)(k:Nat)(l:List (Nat × Nat × Value))(fuel:Nat)(d:ops.size=fuel+l.length)(hs:Region.noSelect ops=true)(i:∀c a t v w,Q (.panic c) (Act.put a (some t) v) w->Q (.panic c) a w)(e:T w.drew)
 (b:Kp .any ops k (l.map λx=>(x.1,x.2.1)) (Array.replicate ops.size false)=true)(f:Ct P ops T l a)
 (h:BY P .any ops Q T k fuel (MT l (Array.replicate ops.size false)) (Cs l a) w.drew):(Code.region id ops true).wp P Q a w:=
 Dl g T k (by rw[d] at b h |-;exact BN hs i e l fuel _ a b f h)
theorem C1{o:Oper}{a:Act}{W:World}(ty:TypeId)(x:Operand)(c:o.op=.load ty x)(b k:Nat)(e:a.eval x=.pointer (some ⟨b,k,none⟩))(cs:LV)(d:TypeDesc)(hr:W.rangeAt b k cs)(f:P.underlying ty=some d)(hd:d.isRow=true)(hi:(P.info? ty).map (·.size)=some cs.length):
  (execOp a.eval o).run P W=.ok (.value (.agg cs.toArray)) W:=by
 unfold execOp
 simp only[c,e,Instr.loadAt,Instr.sureAddr,xt,Sem.run_pure,xU,qv W b k ty cs d hr f hd hi]
end
section
variable{P:Program}{ops:Array Oper}{Q:QT}{md:Region.Mode}{T:World->Prop}{k:Nat}
def MV(md:Region.Mode)(ops:Array Oper)(k:Nat):List (Nat × Nat)->Array Bool->Bool
 |[],_=>true
 |(i,t)::r,l=>(match ops[i]? with
  |none=>false
  |some o=>o.guard.isNone&&o.dst==some t)&&(Region.free md ops l i&&((Region.ready md ops l).contains i&&((k !=i)&&MV md ops k r (l.setIfInBounds i true))))
theorem GC(hs:Region.noSelect ops=true)(e:∀c a t v w,Q (.panic c) (Act.put a (some t) v) w->Q (.panic c) a w){w:World}(d:T w):∀(l:List (Nat × Nat × Value)) (fuel:Nat) (listed:Array Bool) (a:Act),MV md ops k (l.map λx=>(x.1,x.2.1)) listed=true->Ct P ops (λ_=>True) l a->BY P md ops Q T k fuel (MT l listed) (Cs l a) w->BY P md ops Q T k (fuel+l.length) listed a w
 |[],_,_,_,_,_,h=>h
 |(i,t,v)::r,fuel,listed,a,hok,hy,h=>by
  simp only[zN,MV,yw] at hok
  obtain ⟨h1,h2,h3,f,g⟩:=hok
  cases b:ops[i]? with
  |none=>rw[b] at h1;cases h1
  |some o=>
   rw[b] at h1
   simp only[yw,qi,Option.isNone_iff_eq_none] at h1
   have hd:a.put (some t) v=a.put o.dst v:=by rw[h1.2]
   refine Az (i:=i) (v:=v) b hs h2 h3 (λc a w h=>by rw[h1.2] at h;exact e _ _ _ _ _ h) f (.inl ⟨by unfold Region.wanted;rw[h1.1],hy.1 o b⟩) (λ_=>d) ?_
   rw[<-hd]
   exact GC hs e d r fuel _ _ g hy.2 h
end
theorem Kq{P:Program}{c:Code}{Q:QT}{a:Act}{w:World}(h:c.wp P (λe a w=>e=.normal/\Q .normal a w) a w):c.wp P Q a w:=wp_mono h (by rintro e a w ⟨rfl,h⟩;exact h)
end Go.Proofs.YtbdfinegbjdblaaGreatDoor
namespace Go.Proofs.YtbdfinegbjdblaaGreatDoor
open Go.RowKit Tryz
section
variable{P:Program}{ops:Array Oper}{rest:List Oper}{o:Oper}{a:Act}{w:World}{Q:QT}
theorem SH(b:o.guard=none)(ty:TypeId)(x:Operand)(c:o.op=.box ty x)(cs:Array Value)(d:a.eval x=.agg cs)
 (h:wpList P ops Q rest (a.put o.dst (.pointer (some ⟨w.heap.size,0,none⟩))) (w.alloc (.cells cs ty))):wpList P ops Q (o::rest) a w:=
 yZ b λK e=>by
  unfold Oper.wp execOp
  simp only[c,d,Instr.box,newVar,newRow,Value.cells,xt,run_newObj_alloc,Sem.run_pure,xU]
  exact e _ _ h
end
end Go.Proofs.YtbdfinegbjdblaaGreatDoor
namespace Go.Proofs.YtbdfinegbjdblaaGreatDoor
open Go Go.RowKit Tryz
section
variable{P:Program}{ops:Array Oper}{Q:QT}{md:Region.Mode}{T:World->Prop}{k:Nat}
theorem Nc{n l:Nat}(b:JM ops=true)(d:Qz ops=true)(e:¬ LetsOut Q):∀(fuel:Nat) (listed:Array Bool) (a:Act) (w:World),wpAny P md ops Q fuel listed a w->wpAnyIn (Fence.wide.inRound l) n P md ops Q fuel listed a w
 |0,_,_,_,h=>h
 |fuel+1,listed,a,w,h=>⟨h.1,λi hi=>by
  obtain ⟨-,o,f, -⟩:=xI.1 hi
  have h1:=h.2 i hi
  have hg:o.guard=none:=by
   unfold JM at b
   rw[zC] at b
   simpa using b o (xj f)
  have hw:Region.wanted o (yielded ops a.tmps)=true:=by simp[Region.wanted,hg]
  unfold wpOp at h1
  unfold wpOpIn
  rw[f] at h1 |-
  simp only[hw,xi] at h1 |-
  rcases h1 with h1|h1
  ·refine JO (λc hc=>?_) (Oper.wp_mono (λa w=>Nc b d e fuel _ a w) h1)
   unfold Qz at d
   rw[zC] at d
   have h2:=d o (xj f)
   rw[hc] at h2
   cases h2
  exact absurd h1.2 e⟩
theorem Gp{id n lo:Nat}{a:Act}{w:World}(m:P.follows .mixedOrders=true)(d:JM ops=true)(e:Qz ops=true)(g:¬ LetsOut Q)(T:World->Prop)(k:Nat)(l:List (Nat × Nat × Value))(fuel:Nat)(f:ops.size=fuel+l.length)(hs:Region.noSelect ops=true)(o:∀c a t v w,Q (.panic c) (Act.put a (some t) v) w->Q (.panic c) a w)(i:T w.drew)
 (b:Kp .any ops k (l.map λx=>(x.1,x.2.1)) (Array.replicate ops.size false)=true)(j:Ct P ops T l a)
 (h:BY P .any ops Q T k fuel (MT l (Array.replicate ops.size false)) (Cs l a) w.drew):(Code.region id ops true).wpIn (Fence.wide.inRound lo) n P Q a w:=
 wpIn_region_any m (Nc d e g _ _ _ _ (JH _ _ _ _ (by rw[f] at b h |-;exact BN hs o i l fuel _ a b j h)))
end
end Go.Proofs.YtbdfinegbjdblaaGreatDoor
