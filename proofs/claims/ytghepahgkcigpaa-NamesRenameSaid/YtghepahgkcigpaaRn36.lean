/- The row of 'acequialaw17.NamesRename': for every source and every two small numbers, with the reach that the form itself -/
import Derived.Test.YtghepahgkcigpaaRn0
import Derived.Test.YtghepahgkcigpaaRn35
import Derived.Test.YtghepahgkcigpaaRows
import Derived.ProofKit
import Derived.HandedShaped
set_option maxRecDepth 100000
set_option maxHeartbeats 4000000
set_option linter.unusedSimpArgs false
namespace Go.Proofs.Ytghepahgkcigpaa
open Go.RowKit Go.ChangeShapes Go.WideShapes Go.ChangeAt
theorem own:ownKnob Try.prog.godebug=none:=by kernel_rfl
theorem Oj:laidOutB Try.prog=true:=by kernel_rfl
theorem Ol{W:World}(h:W.ShapedOpen Try.prog):GV W:=by
 obtain ⟨m,a⟩:∃m,W.cell? (aV 0 0)=some (iV m):=Try.laysM144.s1_3 W h
 exact ⟨RS a,m,a⟩
theorem Jn(os:Os)(f:os.Started)(H:Type)(enc:TypeId × Value->H):
  ReturnsInHanded {} Try.checked os 7 .any (Rows.namesRenameSpec.pre6 enc Try.prog Try.f7 Rows.namesRenameRow.domain false) (Rows.namesRenameSpec.post enc Try.prog Try.f7 false true false false):=by
 refine returnsInHanded_of_change_shaped (C:=Try.checked) own f (by kernel_rfl) Try.func7
  (ChangeSpec.witness6 (enc:=enc) (C:=Try.checked) false ⟨#[],#[.agg #[.string ByteArray.empty,iV 0,iV 0,iV 0,.string ByteArray.empty,iV 0,.slice none 0 0,iV 0,iV 0,iV 0,.string ByteArray.empty,iV 0,.slice none 0 0,iV 0,iV 0,iV 0,.string ByteArray.empty,iV 0,.slice none 0 0,.slice none 0 0,.slice none 0 0,.slice none 0 0,.slice none 0 0,.slice none 0 0,.slice none 0 0,.slice none 0 0],.int .u8 0,.int .u8 0],[]⟩ 16 (by kernel_rfl) (by kernel_rfl) (by kernel_rfl) (by kernel_rfl)) ?_
 intro W base args ds U y c G _ i B _
 have r:(DataW.weightsEach Try.prog (Try.f7.params.toList++Rows.namesRenameSpec.plain.varTypes Try.prog) (ds++U)).all (·<=reachBytes)=true:=i
 have a:∀(j:Nat) t v,Try.f7.params[j]?=some t->args[j]?=some v->Value.okWide Try.prog W .any base t v:=c
 have k:=G
 obtain ⟨p,q,w,M,rfl,_,_⟩:=G
 have F:DataW.TrodAll enc Try.prog W 0 (fun _=>true) true Try.f7.params.toList args.toList ds p:=w
 rw[Try.params7] at F a r
 obtain ⟨v0,I,R,E,V,Y,Z,p1,p2,rfl,rfl,rfl,h0,h1,h2⟩:=trodAll_three F
 obtain ⟨rfl,rfl⟩:=trodVars_none M
 obtain ⟨cs,rfl,o⟩:=okWide_struct qM (a 0 35 v0 rfl rfl)
 rw[Oi] at o
 have D:=h0
 obtain ⟨fuel,N⟩:=h0
 obtain ⟨n1,rfl,rfl,rfl,s⟩:=Go.ChangeShapes.open_int qR (a 1 5 I rfl rfl) h1
 obtain ⟨n2,rfl,rfl,rfl,l⟩:=Go.ChangeShapes.open_int qR (a 2 5 R rfl rfl) h2
 obtain ⟨m1,rfl,z⟩:∃m:Nat,n1=(m:Int)∧m < 256:=by
  simp only[Lit.wf,yv,yW] at s
  rw[show IntKind.u8.min=0 by decide,show IntKind.u8.max=255 by decide] at s
  exact ⟨n1.toNat,by omega,by omega⟩
 obtain ⟨X,rfl,A⟩:∃m:Nat,n2=(m:Int)∧m < 256:=by
  simp only[Lit.wf,yv,yW] at l
  rw[show IntKind.u8.min=0 by decide,show IntKind.u8.max=255 by decide] at l
  exact ⟨n2.toNat,by omega,by omega⟩
 clear w c i
 simp only[zt] at k
 have P:Wt 35 E:=fun n J=>by simpa using yO.1 r n (yE (j:=0) (t:=35) (d:=E) rfl rfl _ J)
 obtain ⟨L,x,O,K,Q⟩:=PW (H:=H) (enc:=enc) (W:=W) (cs:=cs.toList) N P (by simpa using o)
 have S:=Ol B
 have g:=QQ O (fun b hb=>hb) S z A
 rw[show cs.toList.toArray=cs by simp] at g
 refine g.mono fun e W' ⟨T,hb⟩=>?_
 subst T
 exact ⟨_,rfl,_,_,_,[],_,[],k,trodAll_mk1 (shut_bool qN true),trodAll_mk3 (Below.trod Oj (by kernel_rfl) (yy (by kernel_rfl)) D hb (fun x u=>k.lt x (by simp[u]))) (Below.trod Oj (by kernel_rfl) (yy (by kernel_rfl)) h1 hb (fun x u=>by cases u)) (Below.trod Oj (by kernel_rfl) (yy (by kernel_rfl)) h2 hb (fun x u=>by cases u)),rfl,hb.frame _,fun h=>by cases h⟩
theorem namesRename_holds:Rows.NamesRenameSaid:=
 OpenClaim.holds_of_wide 7 Try.f7 rfl rfl rfl rfl rfl rfl rfl ⟨rfl,rfl,rfl,rfl,rfl⟩ rfl rfl rfl rfl rfl (by kernel_rfl) Try.func7 (by kernel_rfl)
  (yy (by kernel_rfl)) (by unfold Func.isWrapper;rw[yu (of_decide_eq_false (by kernel_rfl))];exact ⟨rfl,rfl⟩)
  (fun os a H enc _=>Jn os a H enc)
#print axioms namesRename_holds
end Go.Proofs.Ytghepahgkcigpaa
