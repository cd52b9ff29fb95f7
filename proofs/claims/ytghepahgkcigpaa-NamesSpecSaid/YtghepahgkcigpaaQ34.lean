/- Parts of the proof, in short words: Zz Wc -/
import Derived.Test.YtghepahgkcigpaaQ0
import Derived.Test.YtghepahgkcigpaaQ33
import Derived.Test.YtghepahgkcigpaaRows
import Derived.ProofKit
import Derived.HandedShaped
set_option maxRecDepth 100000
set_option maxHeartbeats 32000000
set_option linter.unusedSimpArgs false
namespace Go.Proofs.Ytghepahgkcigpaa
open Go.RowKit
theorem Tr{w:World}{c b:LV}{x:AA}(h1:Fl (VT w) w c x)(h2:Fl (VT w) w b x)(a:Fw x):Calls Try.prog 13 #[.agg c.toArray,.agg b.toArray] w fun e w'=>e=.returned (.bool true)∧Below w.heap.size w w':=by
 obtain ⟨L,f⟩:=h1
 obtain ⟨M,d⟩:=h2
 have h:=Qm f d (fun _ h=>h) a a
 rw[(NZ x x).2 ⟨rfl,rfl⟩] at h
 exact h
theorem UU{N:NP}{w:World}{L:BL}{cs:LV}{x:AA}(h:Ba N w L cs x)(hN:∀b,N b->b < w.heap.size)(hg:GV w):
  Calls Try.prog 3 #[.agg cs.toArray] w fun e w'=>e=.returned (.bool true)∧Below w.heap.size w w':=by
 have a:Hid (∀W,Below w.heap.size w W->Ba N W L cs x∧(∀b,N b->b < W.heap.size)∧GV W):=ya (fun W I=>⟨h.same (fun _ h=>h) (fun b hb=>I.block b (hN b hb)),fun b hb=>yk (hN b hb) I.size,hg.below I hg.1⟩)
 have j:=ya (Fl.len ⟨L,h⟩)
 clear h hN hg
 go_enter Try.func3,Try.ntmps3
 refine AH fun K f=>?_
 go_wp2_with (first|(refine AR rfl 35 _ rfl cs.toArray rfl ?_))
 refine f.o _ _ ?_
 clear f K
 obtain ⟨k,r⟩:∃z:World,z=w.alloc (.cells cs.toArray 35):=⟨_,rfl⟩
 rw[<-r]
 have B:Hid (Below w.heap.size w k):=ya (by rw[r];exact (yc _ _).alloc (ye _) _)
 have s:Hid (∀W,Below k.heap.size k W->W.rangeAt w.heap.size 0 cs∧Below w.heap.size w W):=ya (fun W I=>by
  have hz:k.heap.size=w.heap.size+1:=by rw[r];simp
  have hx:k.heap[w.heap.size]?=some (.cells cs.toArray 35 (0,0)):=by rw[r];exact World.alloc_heap_new _ _
  exact ⟨A6 ((I.block _ (by omega)).trans hx),B.o.trans (I.mono B.o.size)⟩)
 clear r
 refine AH fun K f=>?_
 go_wp2_with (first|(go_at_call 9;refine (Qq (a.o k B.o).2.2).mono ?_;rintro e w1 ⟨rfl,U⟩;have C:=ya U;clear U))
 refine f.o _ _ ?_
 clear f K
 have d:=ya (s.o w1 C.o)
 refine AH fun K f=>?_
 cases hq:EJ x
 ·clear f
  go_wp2_with (first
   |(refine yf rfl 35 _ rfl w.heap.size 0 rfl cs _ d.o.1 qO rfl (AX (n:=26) (by kernel_rfl) j.o) ?_)
   |(go_at_call 10;refine (ON (a.o w1 d.o.2).1 (a.o w1 d.o.2).2.1).mono ?_;rintro e w2 ⟨rfl,l⟩;rw[hq];have p:=ya l;clear l))
  go_ret
  exact ⟨rfl,d.o.2.trans (p.o.mono d.o.2.size)⟩
 have q:=ya hq
 go_wp2_with (first
  |(refine yf rfl 35 _ rfl w.heap.size 0 rfl cs _ d.o.1 qO rfl (AX (n:=26) (by kernel_rfl) j.o) ?_)
  |(go_at_call 10;refine (ON (a.o w1 d.o.2).1 (a.o w1 d.o.2).2.1).mono ?_;rintro e w2 ⟨rfl,l⟩;rw[hq];have p:Hid (Below k.heap.size k w2):=ya (C.o.trans (l.mono C.o.size));clear l))
 refine f.o _ _ ?_
 clear f K hq
 have y:=ya (s.o w2 p.o)
 have af:=ya (OO q.o)
 have a0:=ya (US af.o)
 have T:=ya (Qd q.o)
 have HC:=ya (FO (a.o w2 y.o.2).1 (a.o w2 y.o.2).2.1 T.o.1 (a.o w2 y.o.2).2.2 T.o.2)
 refine AH fun K f=>?_
 go_wp2_with (first
  |(refine yf rfl 35 _ rfl w.heap.size 0 rfl cs _ y.o.1 qO rfl (AX (n:=26) (by kernel_rfl) j.o) ?_)
  |(go_at_call 11;refine HC.o.mono ?_;intro e w3 A;obtain ⟨Q,Y,rfl,v⟩:=UT A;have a8:=ya v;have S:=ya Q;have H:=ya v.len;have aa:=ya v.one;clear A Q v)
  |(refine A2 rfl 35 _ _ rfl w3.heap.size rfl Y rfl (World.alloc_heap_new _ _) (by rw[H.o];rfl) (AX (n:=26) (by kernel_rfl) H.o) aa.o ?_;intro w4 M;have D:=ya M;clear M))
 refine f.o _ _ ?_
 clear f K
 have g:Hid (Below w3.heap.size w3 w4):=ya (D.o.below ((yc _ _).alloc (ye _) _) (ye _))
 have F:Hid (Below k.heap.size k w4):=ya (p.o.trans ((S.o.trans (g.o.mono S.o.size)).mono p.o.size))
 have E:=ya (s.o w4 F.o)
 have HD:=ya (Qr (a.o w4 E.o.2).1 (a.o w4 E.o.2).2.1 q.o)
 generalize AK x=c at HD
 refine AH fun K f=>?_
 go_wp2_with (first
  |(refine yf rfl 35 _ rfl w.heap.size 0 rfl cs _ E.o.1 qO rfl (AX (n:=26) (by kernel_rfl) j.o) ?_)
  |(go_at_call 12;refine HD.o.mono ?_;rintro e Z ⟨R,ms,rfl,t⟩;have a1:=ya t;have P:=ya R;have G:=ya t.len;have a7:=ya t.one;clear R t)
  |(refine A2 rfl 35 _ _ rfl Z.heap.size rfl ms rfl (World.alloc_heap_new _ _) (by rw[G.o];rfl) (AX (n:=26) (by kernel_rfl) G.o) a7.o ?_;intro u J;have O:=ya J;clear J))
 refine f.o _ _ ?_
 clear f K
 have m:Hid (Below Z.heap.size Z u):=ya (O.o.below ((yc _ _).alloc (ye _) _) (ye _))
 have i:Hid (Below w4.heap.size w4 u):=ya (P.o.trans (m.o.mono P.o.size))
 have ad:Hid (Below k.heap.size k u):=ya (F.o.trans (i.o.mono F.o.size))
 have V:=ya (s.o u ad.o)
 have ab:Hid (Fl (VT u) u Y (KG x)):=ya (a8.o.wide (fun b hb=>yk hb (yo g.o.size i.o.size)) (fun b hb=>(i.o.block b (yk hb g.o.size)).trans (g.o.block b hb)))
 have a6:Hid (Fl (VT u) u ms (KG x)):=ya (a1.o.wide (fun b hb=>yk hb m.o.size) (fun b hb=>m.o.block b hb))
 have ac:Hid (u.rangeAt w3.heap.size 0 Y):=ya (A6 ((i.o.block _ (yd.1 D.o.row).1).trans D.o.row))
 have a2:=ya (A6 O.o.row)
 have HE:=ya (Tr ab.o a6.o a0.o)
 go_wp2_with (first
  |(refine yf rfl 35 _ rfl w3.heap.size 0 rfl Y _ ac.o qO rfl (AX (n:=26) (by kernel_rfl) H.o) ?_)
  |(refine yf rfl 35 _ rfl Z.heap.size 0 rfl ms _ a2.o qO rfl (AX (n:=26) (by kernel_rfl) G.o) ?_)
  |(go_at_call 13;refine HE.o.mono ?_;rintro e w7 ⟨rfl,X⟩;have ae:=ya X;clear X))
 go_ret
 exact ⟨rfl,V.o.2.trans (ae.o.mono V.o.2.size)⟩
end Go.Proofs.Ytghepahgkcigpaa
namespace Go.Proofs.Ytghepahgkcigpaa
open Go.RowKit Go.ChangeShapes Go.WideShapes Go.ChangeAt
theorem own:ownKnob Try.prog.godebug=none:=by kernel_rfl
theorem OY:laidOutB Try.prog=true:=by kernel_rfl
theorem Iu{W:World}(h:W.ShapedOpen Try.prog):GV W:=by
 obtain ⟨m,a⟩:∃m,W.cell? (aV 0 0)=some (iV m):=Try.laysM144.s1_3 W h
 exact ⟨OX a,m,a⟩
theorem KI(os:Os)(a:os.Started)(H:Type)(enc:TypeId × Value->H):
  ReturnsInHanded {} Try.checked os 3 .any (Rows.namesSpecSpec.pre6 enc Try.prog Try.f3 Rows.namesSpecRow.domain false) (Rows.namesSpecSpec.post enc Try.prog Try.f3 false true false false):=by
 refine returnsInHanded_of_change_shaped (C:=Try.checked) own a (by kernel_rfl) Try.func3
  (ChangeSpec.witness6 (enc:=enc) (C:=Try.checked) false ⟨#[],#[.agg #[.string ByteArray.empty,iV 0,iV 0,iV 0,.string ByteArray.empty,iV 0,.slice none 0 0,iV 0,iV 0,iV 0,.string ByteArray.empty,iV 0,.slice none 0 0,iV 0,iV 0,iV 0,.string ByteArray.empty,iV 0,.slice none 0 0,.slice none 0 0,.slice none 0 0,.slice none 0 0,.slice none 0 0,.slice none 0 0,.slice none 0 0,.slice none 0 0]],[]⟩ 16 (by kernel_rfl) (by kernel_rfl) (by kernel_rfl) (by kernel_rfl)) ?_
 intro W base args ds K r c w _ g u _
 have l:(DataW.weightsEach Try.prog (Try.f3.params.toList++Rows.namesSpecSpec.plain.varTypes Try.prog) (ds++K)).all (·<=reachBytes)=true:=g
 have i:∀(j:Nat) t v,Try.f3.params[j]?=some t->args[j]?=some v->Value.okWide Try.prog W .any base t v:=c
 have k:=w
 obtain ⟨p,q,o,E,rfl,_,_⟩:=w
 have y:DataW.TrodAll enc Try.prog W 0 (fun _=>true) true Try.f3.params.toList args.toList ds p:=o
 rw[Try.params3] at y i l
 obtain ⟨v0,z,rfl,rfl,h0⟩:=trodAll_one y
 obtain ⟨rfl,rfl⟩:=trodVars_none E
 obtain ⟨cs,rfl,m⟩:=okWide_struct qO (i 0 35 v0 rfl rfl)
 rw[Kn] at m
 have s:=h0
 obtain ⟨fuel,A⟩:=h0
 clear o c g
 simp only[yG] at k
 have B:Wt 35 z:=fun n D=>by simpa using yM.1 l n (yB (j:=0) (t:=35) (d:=z) rfl rfl _ D)
 obtain ⟨L,x,I,M,G⟩:=L7 (H:=H) (enc:=enc) (W:=W) (cs:=cs.toList) A B (by simpa using m)
 have J:=Iu u
 have f:=UU I (fun b hb=>hb) J
 rw[show cs.toList.toArray=cs by simp] at f
 refine f.mono fun e W' ⟨N,hb⟩=>?_
 subst N
 exact ⟨_,rfl,_,_,_,[],_,[],k,trodAll_mk1 (shut_bool qP true),trodAll_mk1 (Below.trod OY (by kernel_rfl) (yt (by kernel_rfl)) s hb (fun x F=>by simpa using k.lt x F)),rfl,hb.frame _,fun h=>by cases h⟩
theorem namesSpec_holds:Rows.NamesSpecSaid:=
 OpenClaim.holds_of_wide 3 Try.f3 rfl rfl rfl rfl rfl rfl rfl ⟨rfl,rfl,rfl,rfl,rfl⟩ rfl rfl rfl rfl rfl (by kernel_rfl) Try.func3 (by kernel_rfl)
  (yt (by kernel_rfl)) (by unfold Func.isWrapper;rw[yq (of_decide_eq_false (by kernel_rfl))];exact ⟨rfl,rfl⟩)
  (fun os a H enc _=>KI os a H enc)
#print axioms namesSpec_holds
end Go.Proofs.Ytghepahgkcigpaa
