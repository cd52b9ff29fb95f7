/- Parts of the proof, in short words: Go Dd Hj -/
import Derived.Test.YtbdfinegbjdblaaGreatDoorWq0
import Derived.Test.YtbdfinegbjdblaaGreatDoorWq12
import Derived.Test.YtbdfinegbjdblaaGreatDoorWq10
import Derived.Test.YtbdfinegbjdblaaGreatDoorWq13
import Derived.Test.YtbdfinegbjdblaaGreatDoorWq8
import Derived.Test.YtbdfinegbjdblaaGreatDoorWq3
set_option maxRecDepth 100000
set_option maxHeartbeats 16000000
set_option linter.unusedSimpArgs false
namespace Go.Proofs.YtbdfinegbjdblaaGreatDoor
open Go.RowKit Go.Proofs.Tryz
theorem Su{B:Nat}{W:World}{t e ty:TypeId}{i:TypeInfo}{z:Value}{size d:Nat}(y:prog.underlying t=some (.slice e))(hi:prog.info? e=some i)(p:i.zero=some z)(o:i.size=size)(r:i.bytes=d)(A:d<=10000)
 {v:Value}{n:Nat}{xs:LV}(h:W.ownsRow B e size v n xs){g c:Nat}{row:LV}(hg:W.heap[g]?=some (.cells row.toArray e (0,0)))(D:row.length=size)(q:∀u∈row,u.oneCell'=true)(s:n+1<=1000000){v':Value}{w':World}
 (a:(Builtin.append_ #[t,t] ty #[v,.slice (some ⟨g,0,none⟩) 1 c]).run prog W=.ok v' w'):v'.ownBlock=v.ownBlock\/v'.ownBlock=some W.heap.size:=by
 have C:(n+1)*d<=1000000*10000:=qD s A
 have b:∀j u,row[j]?=some u->W.cell? (((aV g 0):Addr).add j)=some u:=λj u F=>by
  rw[zO]
  simp only[World.cell?,hg]
  simpa using F
 have m:row.length=1*i.size:=by rw[o,D,qS]
 rcases h.2 with ⟨rfl,J⟩|⟨k,cap,cur,rfl,I,G,E,H,w,x⟩
 ·subst J
  rw[run_append_nil W t ty e i _ y hi p (aV g 0) 1 c row m b (by omega) (by omega) (by rw[r];omega)] at a
  cases a
  exact .inr rfl
 by_cases f:n+1<=cap
 ·rw[run_append_room W t ty e i y hi k n cap cur G (aV g 0) 1 c row m b q f (by
   rw[o,w,D]
   calc n*size+size=(n+1)*size:=by rw[qK];omega
    _<=cap*size:=xT _ f)] at a
  cases a
  exact .inl rfl
 have l:∀j u,xs[j]?=some u->W.cell? (((aV k 0):Addr).add j)=some u:=World.ownsRow.cells h (g:=k) rfl
 rw[run_append_grow W t ty e i _ y hi p (aV k 0) n cap xs (by rw[o];exact h.1) l (aV g 0) 1 c row m b (by omega) (by omega) (growslice_fits (by omega) (by rw[r];omega))] at a
 cases a
 exact .inr rfl
theorem KR{ops:Array Oper}{rest:List Oper}{o:Oper}{a:Act}{Q:QT}{W:World}{t e:TypeId}(A:prog.underlying t=some (.slice e))(w:o.guard=none)(s x:Operand)(H:o.op=.call {callee:=.builtin .append,args:=#[s,x],argTypes:=#[t,t]})
 (size:Nat)(b:((prog.info? e).bind λi=>i.zero.map λz=>(i.size,z.cells.size,decide (i.bytes<=10000)))=some (size,size,true))(q:0 < size)
 (B:Nat)(v:Value)(n:Nat)(xs:LV)(hs:a.eval s=v)(l:W.ownsRow B e size v n xs)(g c:Nat)(row:LV)(I:a.eval x=.slice (some ⟨g,0,none⟩) 1 c)(hg:W.heap[g]?=some (.cells row.toArray e (0,0)))(C:row.length=size)(f:∀u∈row,u.oneCell'=true)(k:n+1<=1000000)(p:B<=W.heap.size)
 (h:∀v' w',w'.ownsRow B e size v' (n+1) (xs++row)->W.grownBy w' v.ownBlock->(v'.ownBlock=v.ownBlock\/v'.ownBlock=some W.heap.size)->wpList prog ops Q rest (a.put o.dst v') w'):wpList prog ops Q (o::rest) a W:=by
 cases d:prog.info? e with
 |none=>simp[d] at b
 |some i0=>
  cases r:i0.zero with
  |none=>simp[d,r] at b
  |some z=>
   simp only[d,r,zS,zR,zs,qg,yM] at b
   obtain ⟨h1,h2,h3⟩:=b
   have y:(n+1)*i0.bytes<=1000000*10000:=qD k h3
   have m:∀j u,row[j]?=some u->W.cell? (((aV g 0):Addr).add j)=some u:=λj u F=>by
    rw[zO]
    simp only[World.cell?,hg]
    simpa using F
   obtain ⟨v',w',hr,E,G,_⟩:=run_append_own (P:=prog) W B t o.type e i0 z size i0.bytes A d r h1 rfl h2 q v n xs l (aV g 0) 1 c row (by rw[C,qS]) m f (by unfold maxLen;omega) (by omega) p
   have hb:=Su (ty:=o.type) A d r h1 rfl h3 l hg C f k hr
   refine yZ w λK D=>?_
   unfold Oper.wp
   simp[execOp,H,resolve,invoke,builtin,hs,I,hr,Result.andThen]
   exact D _ _ (h v' w' E G hb)
def MN(k:Kn):LV:=[.string k.name,.int .i64 k.q.dim.l,.int .i64 k.q.dim.h,.int .i64 k.q.dim.a,.int .i64 k.q.v.n,.int .i64 k.q.v.d,.int .i64 k.q.e,.bool k.ok]
def MO(B:Nat)(W:World)(v:Value)(a:List Kn):Prop:=W.ownsRow B 106 8 v a.length (a.flatMap MN)
theorem UE(B:Nat)(W:World):MO B W (.slice none 0 0) []:=⟨by simp,.inl ⟨rfl,rfl⟩⟩
theorem OF{B:Nat}{W:World}{v:Value}{a:List Kn}(h:MO B W v a)(e:a.length<=140737488355328):∃h:AA,v=h.v/\RG W h a:=by
 have hf:=GO (a.map MN) 8 (λcs hc=>by obtain ⟨k, -,rfl⟩:=xS.1 hc;rfl)
 have m:(a.map MN).flatten=a.flatMap MN:=by rw[List.flatMap_def]
 rw[m] at hf
 rcases h.2 with ⟨rfl,o⟩|⟨g,cap,cur,rfl,q,f,s,r,p,n⟩
 ·exact ⟨⟨none,0,0⟩,rfl,o.symm,e,λi hi=>by omega⟩
 refine ⟨⟨some (aV g 0),a.length,cap⟩,rfl,rfl,e,λi hi=>?_⟩
 have d:=(yd.1 f).1
 refine ⟨g,0,MN a[i],rfl,d,rfl,?_,rfl⟩
 intro j u l
 have c:j < 8:=(yF.1 l).1
 have b:=hf.2 i (by simpa using hi) j c
 rw[xg,l,<-n] at b
 rw[xO] at b
 split at b
 ·simp only[World.cell?,f,yy]
  simpa using b
 cases b
theorem Lj{B:Nat}{W W':World}{v:Value}{a:List Kn}(h:MO B W v a)(hb:Below W.heap.size W W'):MO B W' v a:=by
 refine ⟨h.1,h.2.imp id ?_⟩
 rintro ⟨g,cap,cur,rfl,d,b,c⟩
 exact ⟨g,cap,cur,rfl,d,(hb.block g (yd.1 b).1).trans b,c⟩
theorem QS{B:Nat}{a W W':World}{v:Value}{n:Nat}{xs:LV}(h:W.ownsRow B 106 8 v n xs)(b:Below B a W)(d:B<=W.heap.size)(hg:W.grownBy W' v.ownBlock):Below B a W':=by
 refine b.trans ⟨hg.os,hg.tape,hg.output,hg.size,λk f=>hg.block k (by omega) (λe=>?_)⟩
 rcases h.2 with ⟨rfl, -⟩|⟨g,cap,cur,rfl,c, -⟩
 ·simp[Value.ownBlock] at e
 simp only[Value.ownBlock,zs] at e
 omega
theorem WJ(a b:Rt):decide (R4 a b<=0)=decide (a.n*b.d<=b.n*a.d):=by
 unfold R4
 rw[zo]
 simp only[yM]
 split
 ·omega
 split<;>omega
theorem aK{W:World}{b:Nat}{x y z u:Value}{t:TypeId}(h:W.heap[b]?=some (.cells [x,y,z,u].toArray t (0,0))):W.rangeAt b 0 [x,y]/\W.rangeAt b 2 [z,u]:=by
 obtain ⟨a0,d,c,a3⟩:=Vj h
 constructor<;>(intro j v a;match j,a with|0,a=>cases a;assumption|1,a=>cases a;assumption)
theorem Po(a b:Rt)(w:World):Calls prog 110 #[.agg #[.int .i64 a.n,.int .i64 a.d,.int .i64 b.n,.int .i64 b.d]] w λe w'=>e=.returned (.bool (DG a b))/\Below w.heap.size w w':=by
 have u:=yb (λW:World=>Ln a W)
 have v:=yb (λW:World=>Ln b W)
 have q:=yb (λ(h1:AJ a=true) (h2:AJ b=true) (W:World)=>UN a b h1 h2 W)
 have j:=WJ a b
 obtain ⟨F,f⟩:∃r,r=DG a b:=⟨_,rfl⟩
 rw[<-f]
 unfold DG at f
 generalize R4 a b=c at q j
 obtain ⟨s,z⟩:=a
 obtain ⟨A,B⟩:=b
 dsimp only at u v q j f |-
 rw[<-j] at f
 clear j
 generalize AJ ⟨s,z⟩=E at*
 generalize AJ ⟨A,B⟩=D at*
 obtain ⟨b1,y⟩:∃b,decide (s≥0)=b:=⟨_,rfl⟩
 obtain ⟨b2,t⟩:∃b,decide (c<=0)=b:=⟨_,rfl⟩
 rw[t,show decide (0<=s)=b1 from y] at f
 have C:=yb f
 clear f
 have g:=yb (FM w [iV s,iV z,iV A,iV B] 80)
 rcases QO E D b1 b2 with rfl|⟨rfl,rfl⟩|⟨rfl,rfl,rfl⟩|⟨rfl,rfl,rfl,rfl⟩|⟨rfl,rfl,rfl,rfl⟩
 all_goals
  try simp only[yz,xP,if_false] at u
  try simp only[yz,xP,if_false] at v
  try replace q:=yb (q.o rfl rfl)
  go_enter func110,ntmps110
  go_upto_region 1 with fail
  generalize w.alloc _=W at g |-
  have i:=yb (aK g.o.x)
  obtain ⟨k,p,m,l⟩:=Vj g.o.x
  go_wp2_with (first
   |(with_reducible refine Bn (by kernel_rfl) 58 (.tmp 5) rfl w.heap.size 0 (by kernel_rfl) _ _ i.o.1 ju rfl (by kernel_rfl) ?_)
   |(with_reducible refine Bn (by kernel_rfl) 58 (.tmp 10) rfl w.heap.size 2 (by kernel_rfl) _ _ i.o.2 ju rfl (by kernel_rfl) ?_)
   |(with_reducible refine Bn (by kernel_rfl) 58 (.tmp 16) rfl w.heap.size 0 (by kernel_rfl) _ _ i.o.1 ju rfl (by kernel_rfl) ?_)
   |(with_reducible refine Bn (by kernel_rfl) 58 (.tmp 18) rfl w.heap.size 2 (by kernel_rfl) _ _ i.o.2 ju rfl (by kernel_rfl) ?_)
   |(go_at_call 134;(with_reducible refine (u.o _).mono ?_);rintro e w2 ⟨rfl,hb⟩;have h:=yb (g.o.up hb);clear hb g k p m l i;have g:=h;clear h;have i:=yb (aK g.o.x);obtain ⟨k,p,m,l⟩:=Vj g.o.x)
   |(go_at_call 134;(with_reducible refine (v.o _).mono ?_);rintro e w2 ⟨rfl,hb⟩;have h:=yb (g.o.up hb);clear hb g k p m l i;have g:=h;clear h;have i:=yb (aK g.o.x);obtain ⟨k,p,m,l⟩:=Vj g.o.x)
   |(go_at_call 135;(with_reducible refine (q.o _).mono ?_);rintro e w2 ⟨rfl,hb⟩;have h:=yb (g.o.up hb);clear hb g k p m l i;have g:=h;clear h;have i:=yb (aK g.o.x);obtain ⟨k,p,m,l⟩:=Vj g.o.x))
  go_ret
  exact ⟨by rw[C.o];rfl,g.o.below⟩
def MS(x:Jn):Bool:=AL [1,x.delay,16]&&(AL [0,x.siphon,x.cap,1073741824]&&(AL [0,x.siphon,x.bank,1099511627776]&&(AL [0,x.lo,x.hi,1073741824]&&DG x.s0 x.s1)))
theorem Z5(a b c d e f:Bool):a=false\/(a=true/\b=false)\/(a=true/\b=true/\c=false)\/(a=true/\b=true/\c=true/\d=false)\/(a=true/\b=true/\c=true/\d=true/\e=false)\/(a=true/\b=true/\c=true/\d=true/\e=true/\f=true)\/(a=true/\b=true/\c=true/\d=true/\e=true/\f=false):=by
 cases a<;>cases b<;>cases c<;>cases d<;>cases e<;>cases f<;>simp
theorem UO(x:Jn):MS x=(wi x.delay 1 16&&(wi x.cap 0 1073741824&&(wi x.bank 0 1099511627776&&(wi x.siphon 0 (min x.cap x.bank)&&(wi x.lo 0 x.hi&&(!decide (x.hi>1073741824)&&DG x.s0 x.s1)))))):=by
 unfold MS
 rw[zo]
 simp only[wi,FN,FO,xL,yw,yM,qR,xW]
 generalize (DG x.s0 x.s1=true)=p
 constructor<;>intro h<;>refine ⟨?_,?_⟩<;>(try refine ⟨?_,?_⟩)<;>(try refine ⟨?_,?_⟩)<;>(try refine ⟨?_,?_⟩)<;>(try refine ⟨?_,?_⟩)<;>(try refine ⟨?_,?_⟩)<;>(try refine ⟨?_,?_⟩)<;>first|omega|exact h.2.2.2.2|exact h.2.2.2.2.2.2
theorem R7(x:Jn)(w:World):Calls prog 71 #[.agg (Ft x).toArray] w λe w'=>e=.returned (.bool (MS x))/\Below w.heap.size w w':=by
 obtain ⟨M,a⟩:∃r,r=MS x:=⟨_,rfl⟩
 rw[<-a]
 rw[UO] at a
 obtain ⟨z,up,p,k,l,m,lo,hi,⟨h,g⟩,⟨f,i⟩⟩:=x
 have b:=yb (FM w (Ft ⟨z,up,p,k,l,m,lo,hi,⟨h,g⟩,⟨f,i⟩⟩) 82)
 have t:=yb (λW:World=>Po ⟨h,g⟩ ⟨f,i⟩ W)
 unfold Ft at b |-
 dsimp only at b t a |-
 have D:=yb (λW:World=>AW p 1 16 W)
 have F:=yb (λW:World=>AW k 0 1073741824 W)
 have P:=yb (λW:World=>AW l 0 1099511627776 W)
 have J:=yb (λW:World=>AW m 0 (min k l) W)
 have E:=yb (λW:World=>AW lo 0 hi W)
 generalize wi p 1 16=b1 at*
 generalize wi k 0 1073741824=b2 at*
 generalize wi l 0 1099511627776=Q at*
 generalize wi m 0 _=I at*
 generalize wi lo 0 hi=C at*
 generalize DG _ _=U at*
 obtain ⟨b6,s⟩:∃c,decide (hi>1073741824)=c:=⟨_,rfl⟩
 rw[s] at a
 have R:=yb a
 clear a
 rcases Z5 b1 b2 Q I C b6 with rfl|⟨rfl,rfl⟩|⟨rfl,rfl,rfl⟩|⟨rfl,rfl,rfl,rfl⟩|⟨rfl,rfl,rfl,rfl,rfl⟩|⟨rfl,rfl,rfl,rfl,rfl,rfl⟩|⟨rfl,rfl,rfl,rfl,rfl,rfl⟩
 all_goals
  go_enter func71,ntmps71
  go_upto_region 1 with fail
  generalize w.alloc _=W at b |-
  have H:Hid (W.rangeAt w.heap.size 8 [iV h,iV g,iV f,iV i]):=yb (by
   obtain ⟨y,N,K,B,O,S,G,L,T,A,q,n⟩:=MK b.o.x
   intro j v d
   match j,d with
   |0,d=>cases d;assumption
   |1,d=>cases d;assumption
   |2,d=>cases d;assumption
   |3,d=>cases d;assumption)
  obtain ⟨y,N,K,B,O,S,G,L,T,A,q,n⟩:=MK b.o.x
  go_wp2_with (first
   |(with_reducible refine yj rfl 80 (.tmp 44) rfl w.heap.size 8 (by kernel_rfl) _ _ H.o jz rfl (by kernel_rfl) ?_)
   |(go_at_call 53;with_reducible refine (D.o _).mono ?_;rintro e w2 ⟨rfl,rfl⟩)
   |(go_at_call 53;with_reducible refine (F.o _).mono ?_;rintro e w2 ⟨rfl,rfl⟩)
   |(go_at_call 53;with_reducible refine (P.o _).mono ?_;rintro e w2 ⟨rfl,rfl⟩)
   |(go_at_call 53;with_reducible refine (J.o _).mono ?_;rintro e w2 ⟨rfl,rfl⟩)
   |(go_at_call 53;with_reducible refine (E.o _).mono ?_;rintro e w2 ⟨rfl,rfl⟩)
   |(go_at_call 110;with_reducible refine (t.o _).mono ?_;rintro e w2 ⟨rfl,hb⟩;have u:=yb (b.o.up hb);clear hb b;have b:=u;clear u))
  go_ret
  exact ⟨by rw[R.o];rfl,b.o.below⟩
def FL(F:NP)(l:List Nat)(k:Nat):Prop:=F k\/k∈l
section
variable{F:NP}{l l':List Nat}{W W':World}{e:Ex}{c:LV}
theorem ZU(a:∀k∈l',k∈l\/W.heap.size<=k):∀b,FL F l' b->FL F l b\/W.heap.size<=b:=λb hb=>hb.elim (λh=>.inl (.inl h)) λh=>(a b h).elim (λh=>.inl (.inr h)) .inr
end
theorem Rh{B:Nat}{W:World}{t e ty:TypeId}{h:TypeInfo}{z:Value}{size:Nat}(w:prog.underlying t=some (.slice e))(hi:prog.info? e=some h)(o:h.zero=some z)(m:h.size=size)
 {v:Value}{n:Nat}{xs:LV}(f:W.ownsRow B e size v n xs){g c:Nat}{row:LV}(hg:W.heap[g]?=some (.cells row.toArray e (0,0)))(x:row.length=size)(p:∀u∈row,u.oneCell'=true)(q:(n+1)*h.bytes<=140737488355328)(y:n+1<=140737488355328){v':Value}{w':World}
 (a:(Builtin.append_ #[t,t] ty #[v,.slice (some ⟨g,0,none⟩) 1 c]).run prog W=.ok v' w'):v'.ownBlock=v.ownBlock\/v'.ownBlock=some W.heap.size:=by
 have b:∀j u,row[j]?=some u->W.cell? (((aV g 0):Addr).add j)=some u:=λj u D=>by
  rw[zO]
  simp only[World.cell?,hg]
  simpa using D
 have l:row.length=1*h.size:=by rw[m,x,qS]
 have A:1*h.bytes<=(n+1)*h.bytes:=xT _ (by omega)
 rcases f.2 with ⟨rfl,H⟩|⟨k,cap,cur,rfl,G,E,C,F,r,s⟩
 ·subst H
  rw[run_append_nil W t ty e h _ w hi o (aV g 0) 1 c row l b (by omega) (by omega) (by omega)] at a
  cases a
  exact .inr rfl
 by_cases d:n+1<=cap
 ·rw[run_append_room W t ty e h w hi k n cap cur E (aV g 0) 1 c row l b p d (by
   rw[m,r,x]
   calc n*size+size=(n+1)*size:=by rw[qK];omega
    _<=cap*size:=xT _ d)] at a
  cases a
  exact .inl rfl
 have i:∀j u,xs[j]?=some u->W.cell? (((aV k 0):Addr).add j)=some u:=World.ownsRow.cells f (g:=k) rfl
 rw[run_append_grow W t ty e h _ w hi o (aV k 0) n cap xs (by rw[m];exact f.1) i (aV g 0) 1 c row l b (by omega) (by omega) (growslice_fits (by omega) q)] at a
 cases a
 exact .inr rfl
def ob(v:Value):List Nat:=v.ownBlock.toList
def Ya{δ:Type}(V:NP->World->LV->δ->Prop):Prop:=∀(N N':NP) (w w':World) (cs:LV) (d:δ),(∀b,N b->N' b)->(∀b,N b->w'.heap[b]?=w.heap[b]?)->V N w cs d->V N' w' cs d
section
variable{δ:Type}{V:NP->World->LV->δ->Prop}{F F':NP}{l l':List Nat}{W W':World}{cs:LV}{d:δ}{v v':Value}{ds:List δ}{ty sz B C:Nat}
theorem Ya.flux(hs:Ya V)(h:V (GF F W) W cs d)(hf:H7 F W W')(a:∀b,F' b->F b\/W.heap.size<=b):V (GF F' W') W' cs d:=hs _ _ _ _ _ _ (λ_ hb=>hb.up hf.1 a) (λb hb=>hf.2 b hb.2 hb.1) h
structure NO (V:(Nat->Prop)->World->List Value->δ->Prop) (ty sz B:Nat) (F:Nat->Prop) (l:List Nat) (W:World) (v:Value) (ds:List δ):Prop where
 own:∃rows:List (List Value),W.ownsRow B ty sz v rows.length rows.flatten/\(∀r∈rows,r.length=sz)/\B9 (λcs d=>V (GF (FL F (l++ob v)) W) W cs d) rows ds
theorem El{n:Nat}{xs:LV}(h:W.ownsRow B ty sz v n xs):∀k∈ob v,B<=k/\k < W.heap.size:=by
 intro k a
 rcases h.2 with ⟨rfl,_⟩|⟨g,cap,cur,rfl,c,b,_⟩
 ·simp[ob,Value.ownBlock] at a
 simp only[ob,Value.ownBlock,Option.toList_some,zu] at a
 subst a
 exact ⟨c,(yd.1 b).1⟩
theorem NO.lt(h:NO V ty sz B F l W v ds):∀k∈ob v,B<=k/\k < W.heap.size:=by
 obtain ⟨rows,h1,_⟩:=h.own
 exact El h1
theorem AR{n:Nat}{xs:LV}(h:W.ownsRow B ty sz v n xs):∃a m c,v=.slice a m c:=by
 rcases h.2 with ⟨rfl,_⟩|⟨g,cap,cur,rfl,_⟩
 ·exact ⟨_,_,_,rfl⟩
 exact ⟨_,_,_,rfl⟩
theorem NO.slice(h:NO V ty sz B F l W v ds):∃a m c,v=.slice a m c:=by
 obtain ⟨rows,h1,_⟩:=h.own
 exact AR h1
theorem Da{n:Nat}{xs:LV}(h:W.ownsRow B ty sz v n xs)(hb:∀k∈ob v,W'.heap[k]?=W.heap[k]?):W'.ownsRow B ty sz v n xs:=by
 obtain ⟨h1,h2⟩:=h
 refine ⟨h1,h2.imp id ?_⟩
 rintro ⟨g,cap,cur,rfl,b,a,c⟩
 exact ⟨g,cap,cur,rfl,b,(hb g (by simp[ob,Value.ownBlock])).trans a,c⟩
theorem Za(a:∀k∈l',k∈l\/W.heap.size<=k):∀b,FL F l' b->FL F l b\/W.heap.size<=b:=ZU a
theorem NO.up(hs:Ya V)(h:NO V ty sz B F l W v ds)(hf:H7 (FL F (l++ob v)) W W')(hb:∀k∈ob v,W'.heap[k]?=W.heap[k]?)(c:∀k∈l',k∈l\/W.heap.size<=k):NO V ty sz B F l' W' v ds:=by
 obtain ⟨rows,h1,h2,h3⟩:=h.own
 refine ⟨rows,Da h1 hb,h2,B9.mono (λ_ _ b=>hs.flux b hf (Za λk a=>?_)) h3⟩
 rcases yO.1 a with a|a
 ·exact (c k a).imp (λh=>yO.2 (.inl h)) id
 exact .inl (yO.2 (.inr a))
theorem H7.more(hf:H7 (FL F l) W W')(a:List Nat):H7 (FL F (l++a)) W W':=hf.wide λ_ _ h=>h.elim .inl λh=>.inr (yO.2 (.inl h))
structure bL (V:(Nat->Prop)->World->List Value->δ->Prop) (ty sz B:Nat) (F:Nat->Prop) (l:List Nat) (W W':World) (v v':Value) (ds:List δ):Prop where
 grow:NO V ty sz B F l W' v' ds
 flux:H7 (FL F (l++ob v)) W W'
 below:Below B W W'
 obs:∀k∈l++ob v',k∈l++ob v\/W.heap.size<=k
theorem NO.row(hs:Ya V)(h:NO V ty sz B F l W v ds)(hf:H7 (FL F l) W W')(hb:∀k∈ob v,W'.heap[k]?=W.heap[k]?)(r:∀b,F b->b < B)(d:ds.length<=140737488355328):∃h:AA,v=h.v/\Bg (GF F W') W' sz (V (GF F W') W') h ds:=by
 obtain ⟨rows,h1,h2,h3⟩:=h.own
 have m:rows.length=ds.length:=B9.length h3
 have s:∀i (hi:i < ds.length) (a:i < rows.length),V (GF F W') W' rows[i] ds[i]:=λi hi a=>hs.flux (B9.get h3 i a hi) (hf.more _) (λb hb=>.inl (.inl hb))
 rcases h1.2 with ⟨rfl,t⟩|⟨g,cap,cur,rfl,x,n,z,y,w,p⟩
 ·exact ⟨⟨none,0,0⟩,rfl,by rw[<-m,t],d,λi hi=>by omega⟩
 refine ⟨⟨some (aV g 0),rows.length,cap⟩,rfl,m,d,λi hi=>?_⟩
 have a:i < rows.length:=by omega
 have e:=hb g (by simp[ob,Value.ownBlock])
 have q:=(yd.1 n).1
 refine ⟨g,0,rows[i],rfl,⟨λh=>by have:=r g h;omega,by have:=hf.1;omega⟩,h2 _ (yR a),?_,s i hi a⟩
 intro j u o
 have f:j < sz:=by rw[<-h2 _ (yR a)];exact (yF.1 o).1
 have c:=(GO rows sz h2).2 i a j f
 rw[o,<-p] at c
 rw[xO] at c
 split at c
 ·simp only[World.cell?,e,n,yy]
  simpa using c
 cases c
end
end Go.Proofs.YtbdfinegbjdblaaGreatDoor
