/- PROVED HERE: the tied card of 'acequialaw19.ExpandCheckSpec': for every district, in every start that meets the row's co -/
import Derived.Test.YtbdfinegbjdblaaGreatDoorWq0
import Derived.Test.YtbdfinegbjdblaaGreatDoorWq9
import Derived.Test.YtbdfinegbjdblaaGreatDoorWq21
import Derived.Test.YtbdfinegbjdblaaGreatDoorWq32
import Derived.Test.YtbdfinegbjdblaaGreatDoorCards
import Derived.SevenTiedAt
import Derived.Carry
set_option maxRecDepth 100000
set_option maxHeartbeats 4000000
set_option linter.unusedSimpArgs false
namespace Go.Proofs.YtbdfinegbjdblaaGreatDoor
open Go.ChangeShapes Go.WideShapes Go.ChangeAt Go.WideMaps Go.WideElems Go.RowKit Go.ChangeMaps Go.Proofs.Tryz
theorem Ie(os:Os)(c:os.Started)(H:Type)(enc:TypeId × Value->H):
  ReturnsInHanded {} Tryz.checked os 3 .any (λw args=>(Rows.expandCheckSpecSpec.pre enc prog Tryz.f3 [] false w args/\laidMetH prog Kh w)/\sizedMet enc prog Tryz.f3 (OpenSpec.ofChange Rows.expandCheckSpecSpec) false w args)
   (Rows.expandCheckSpecSpec.post enc prog Tryz.f3 false true false false):=by
 refine Ir (C:=Tryz.checked) (X:=λw _=>laidMetH prog Kh w) (λ_ _ _ E h=>h.of_heap E) own c (by kernel_rfl) func3
  (ChangeSpec.witness_shaped (enc:=enc) (C:=Tryz.checked) (os:=os) (X:=λw _=>laidMetH prog Kh w) false (World.doorLaid prog 400 os) #[.agg #[.string ByteArray.empty,iV 0,iV 0,iV 0,.slice none 0 0,.slice none 0 0,.slice none 0 0,.slice none 0 0,.slice none 0 0,.slice none 0 0]] 16 rfl (World.shaped_of_RefB (by kernel_rfl) (by kernel_rfl)) (by kernel_rfl) (by kernel_rfl) (by kernel_rfl) (Wc os _)) ?_
 intro W base args ds N o a z i L r
 have l:(DataW.weightsEach prog (Tryz.f3.params.toList++Rows.expandCheckSpecSpec.plain.varTypes prog) (ds++N)).all (·<=reachBytes)=true:=i
 have g:∀(j:Nat) t v,Tryz.f3.params[j]?=some t->args[j]?=some v->Value.okWide prog W .any base t v:=a
 have k:=z
 obtain ⟨p,q,m,F,rfl,_,_⟩:=z
 have y:DataW.TrodAll enc prog W 0 (λ_=>true) true Tryz.f3.params.toList args.toList ds p:=m
 rw[Tryz.params3] at y g l
 obtain ⟨K,u,rfl,rfl,h0⟩:=trodAll_one y
 obtain ⟨rfl,rfl⟩:=trodVars_none F
 obtain ⟨cs,rfl,D⟩:=okWide_struct jf (g 0 31 K rfl rfl)
 have s:=h0
 obtain ⟨fuel,hf⟩:=h0
 clear m a i
 simp only[yE] at k
 have hw:Wt 31 u:=λn P=>by simpa using zj.1 l n (xK (j:=0) (t:=31) (d:=u) rfl rfl _ P)
 obtain ⟨hr,I,hc,G,hd,Q,x,M,A,J⟩:=UM (H:=H) (enc:=enc) (W:=W) (cs:=cs.toList) hf hw
 have hg:=P8 r
 have f:=NU M (λb hb=>hb) hg (LA L hg)
 rw[show cs.toList.toArray=cs by simp] at f
 refine f.mono λe W' ⟨B,hb⟩=>?_
 subst B
 exact ⟨_,rfl,_,_,_,[],_,[],k,trodAll_mk1 (shut_bool jh true),trodAll_mk1 (Below.trod XJ (by kernel_rfl) (zE (by kernel_rfl)) s hb (λx O=>k.lt x (by simp[O]))),rfl,hb.frame _,λh=>by cases h⟩
theorem expandCheckSpec_holds:Rows.ExpandCheckSpecSaid:=
 OpenClaim.holds_of_wide 3 Tryz.f3 rfl rfl rfl rfl rfl rfl rfl ⟨rfl,rfl,rfl,rfl,rfl⟩ rfl rfl rfl rfl rfl (by kernel_rfl) func3 (by kernel_rfl)
  (zE (by kernel_rfl)) (by unfold Func.isWrapper;rw[ym (of_decide_eq_false (by kernel_rfl))];exact ⟨rfl,rfl⟩)
  (λos a H enc _=>Ie os a H enc)
theorem expandCheckSpecCard_holds:Rows.ExpandCheckSpecCardSaid:=
 Claim7.holds_tied_plain_at .later [] [.data,.data,.data,.data,.data,.data] true (true, "f5738827d6f63cf036124ae492e350c5da6fed42d8fae68da1c2a643752ba589") true
  expandCheckSpec_holds (λ_ h=>by cases h) (by kernel_rfl) (λ_ h=>by cases h) expandCheckSpec_row_tie rfl ⟨rfl,rfl⟩ (by kernel_rfl) rfl
  (λf fn hf b=>by
   obtain rfl:f=3:=yf ((show prog.funcNamed "acequia/acequialaw19.ExpandCheckSpec" =some 3 by kernel_rfl).symm.trans hf) |>.symm
   obtain rfl:fn=Tryz.f3:=(yf (func3.symm.trans b)).symm
   exact ⟨by kernel_rfl,λj t c=>by
    rw[Tryz.params3] at c
    have d:t∈[31]:=by simpa using xj c
    have a:([31].all λu=>!prog.wantsStandIn u)=true:=by kernel_rfl
    exact (show prog.wantsStandIn t=false by simpa using zj.1 a t d)⟩)
  (by kernel_rfl)
#print axioms expandCheckSpecCard_holds
end Go.Proofs.YtbdfinegbjdblaaGreatDoor
