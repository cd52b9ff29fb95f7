/- Parts of the proof, in short words: Zv Ba Bg Bm Dn Do Zw Zz Dq Dr Ds Dt Du -/
import Derived.Test.YtghepahgkcigpaaRn0
import Derived.Test.YtghepahgkcigpaaRn34
import Derived.Test.YtghepahgkcigpaaRn28
import Derived.Test.YtghepahgkcigpaaRn8
import Derived.Test.YtghepahgkcigpaaRn13
import Derived.Test.YtghepahgkcigpaaRn31
import Derived.Test.YtghepahgkcigpaaRn24
import Derived.Test.YtghepahgkcigpaaRn9
set_option maxRecDepth 100000
set_option maxHeartbeats 64000000
set_option linter.unusedSimpArgs false
namespace Go.Proofs.Ytghepahgkcigpaa
open Go.RowKit
theorem Jl{α β:Type}{f:α->Nat->β}{g:Nat->α->β}{l:List α}(h:∀i (hi:i < l.length),f l[i] i=g i l[i]):(l.zipIdx.map fun p=>f p.1 p.2)=l.mapIdx g:=by
 refine zn (by simp) fun i h1 h2=>?_
 rw[zF,zs,xg]
 simpa using h i (by simpa using h1)
theorem JN{x:Am}(h:EZ (Tb.of x) x=true):FO (Tb.of x) x=Ab x:=by
 unfold EZ IJ at h
 simp only[yv,yO] at h
 obtain ⟨⟨⟨⟨⟨⟨⟨⟨⟨h1,h2⟩,h3⟩,h4⟩,h5⟩,h6⟩,c⟩,j⟩,o⟩,a⟩:=h
 have b:∀ {α:Type} {l:List α} {p:α->Nat->Bool},(∀q∈l.zipIdx,p q.1 q.2=true)->∀i (hi:i < l.length),p l[i] i=true:=by
  intro α l p r i hi
  have:=r _ (yz (l:=l.zipIdx) (n:=i) (by simpa using hi))
  rw[xg] at this
  simpa using this
 have e1:(x.lets.zipIdx.map fun p=>Ez (Tb.of x) p.1 p.2)=x.lets.mapIdx (CF.mp (fT (Tb.of x))):=Jl (f:=Ez (Tb.of x)) fun i hi=>Wg (b (p:=Ij (Tb.of x)) h4 i hi)
 have e2:x.crops.map (Ec (Tb.of x))=x.crops.mapIdx (Br.mp (fT (Tb.of x))):=C9 fun i hi=>Vi i (h5 _ (yz hi))
 have d:(x.reaches.zipIdx.map fun p=>CX (Tb.of x) p.1 p.2)=x.reaches.mapIdx (At.mp (fT (Tb.of x)) (gT (Tb.of x))):=Jl (f:=CX (Tb.of x)) fun i hi=>U0 (b (p:=DN (Tb.of x)) h6 i hi)
 have m:x.farms.map (Eb (Tb.of x))=x.farms.mapIdx (Bd.mp (fT (Tb.of x)) (gT (Tb.of x))):=C9 fun i hi=>Vg i (c _ (yz hi))
 have g:x.rots.map (FN (Tb.of x))=x.rots.mapIdx (B6.mp (fT (Tb.of x)) (gT (Tb.of x))):=C9 fun i hi=>Wf i (j _ (yz hi))
 have e:x.rights.map (DU (Tb.of x))=x.rights.mapIdx (AG.mp (fT (Tb.of x)) (gT (Tb.of x))):=C9 fun i hi=>TZ i (o _ (yz hi))
 have k:x.duties.map (Ew (Tb.of x))=x.duties.mapIdx (BR.mp (fT (Tb.of x)) (gT (Tb.of x))):=C9 fun i hi=>Vf i (a _ (yz hi))
 unfold FO IU Ab Am.mp
 simp only[AY h1,AY h2,AY h3,e1,e2,d,m,g,e,k]
structure VY (t:Tb):Prop where
 lets:t.lets.Nodup
 crops:t.crops.Nodup
 reaches:t.reaches.Nodup
 farms:t.farms.Nodup
theorem Uk{x:Am}(h:Eu x):VY (Tb.of x):=⟨h.1,h.2.1,h.2.2.1,h.2.2.2.1⟩
theorem SE{l:LB}{s:ByteArray}{i:Nat}(h:AR l s=some i):s∈l∧l[i]?=some s:=by
 by_cases a:s∈l
 ·obtain ⟨j,h1,h2,h3⟩:=GO a
  rw[h] at h1
  obtain rfl:i=j:=by simpa using h1
  exact ⟨a,by rw[yk h2,h3]⟩
 ·rw[G1 a] at h;cases h
theorem O5{m:LB}{s:ByteArray}{k i:Nat}(h:AR (m.take k) s=some i):AR m s=some i∧i < k:=by
 rw[F0] at h
 cases a:AR m s with
 |none=>rw[a] at h;cases h
 |some j=>
  rw[a] at h
  simp only at h
  split at h
  ·rename_i b
   obtain rfl:j=i:=by simpa using h
   exact ⟨rfl,b⟩
  ·cases h
theorem SG{l:LB}{r:Rf}(h:CK l r=true):∃i,AR l r.name=some i∧E4 l r=⟨r.name,(i:Int)⟩:=by
 unfold CK at h
 cases a:AR l r.name with
 |none=>rw[a] at h;cases h
 |some i=>exact ⟨i,rfl,by unfold E4 KI;rw[a]⟩
section
variable{t:Tb}
end
theorem DX{α β:Type}{F:Nat->α->α}{k:α->β}(h:∀i a,k (F i a)=k a)(l:List α):(l.mapIdx F).map k=l.map k:=by
 refine zn (by simp) fun i h1 h2=>?_
 simp[h]
section
variable{t:Tb}
theorem Um(x:Am){f:Int->Ex->Ex}{g:Int->Rf->Rf}:Tb.of (x.mp f g)=Tb.of x:=by
 unfold Tb.of Am.mp
 simp only
 rw[DX (F:=CF.mp f) (k:=fun d:CF=>d.name) (fun _ _=>rfl),DX (F:=Br.mp f) (k:=fun d:Br=>d.name) (fun _ _=>rfl),DX (F:=At.mp f g) (k:=fun d:At=>d.name) (fun _ _=>rfl),DX (F:=Bd.mp f g) (k:=fun d:Bd=>d.name) (fun _ _=>rfl)]
theorem SH(x:Am){f:Int->Ex->Ex}{g:Int->Rf->Rf}:CH (x.mp f g)=CH x:=by
 unfold CH Am.mp
 simp only
 rw[DX (F:=B6.mp f g) (k:=fun d:B6=>d.name) (fun _ _=>rfl),DX (F:=AG.mp f g) (k:=fun d:AG=>d.name) (fun _ _=>rfl)]
theorem Nl(x:Am){f:Int->Ex->Ex}{g:Int->Rf->Rf}:(x.mp f g).duties.map (·.name)=x.duties.map (·.name):=by
 unfold Am.mp
 simp only
 rw[DX (F:=BR.mp f g) (k:=fun d:BR=>d.name) (fun _ _=>rfl)]
theorem Un(x:Am){f:Int->Ex->Ex}{g:Int->Rf->Rf}:Cs (x.mp f g)=Cs x:=by
 have h:=Um x (f:=f) (g:=g)
 unfold Tb.of at h
 simp only[Tb.mk.injEq] at h
 obtain ⟨h1,h2,h3,h4⟩:=h
 have h5:(x.mp f g).rots.map (·.name)=x.rots.map (·.name):=by
  unfold Am.mp;simp only
  rw[DX (F:=B6.mp f g) (k:=fun d:B6=>d.name) (fun _ _=>rfl)]
 have h6:(x.mp f g).rights.map (·.name)=x.rights.map (·.name):=by
  unfold Am.mp;simp only
  rw[DX (F:=AG.mp f g) (k:=fun d:AG=>d.name) (fun _ _=>rfl)]
 unfold Cs
 rw[h1,h2,h3,h4,h5,h6,Nl]
 rfl
theorem Vv(x:Am){f:Int->Ex->Ex}{g:Int->Rf->Rf}(h:Eu x):Eu (x.mp f g):=by
 have k:=Um x (f:=f) (g:=g)
 unfold Tb.of at k
 simp only[Tb.mk.injEq] at k
 obtain ⟨h1,h2,h3,h4⟩:=k
 unfold Eu
 rw[h1,h2,h3,h4,SH,Nl]
 exact h
end
section
variable{t:Tb}
end
def Ds(c:Int)(old new:ByteArray)(d:Int)(r:Rf):Rf:=if d=c∧r.name=old then ⟨new,r.n⟩ else r
theorem FR:∀ {l:LB} {k:Nat} {a:ByteArray},l.Nodup->a∉l->(l.set k a).Nodup
 |[],_,_,_,_=>by simp
 |x::r,0,a,hn,ha=>by
  rw[List.set_cons_zero,xD]
  exact ⟨fun h=>ha (xF _ h),(xD.1 hn).2⟩
 |x::r,k+1,a,hn,ha=>by
  rw[List.set_cons_succ,xD]
  refine ⟨fun h=>?_,FR (xD.1 hn).2 (fun h=>ha (xF _ h))⟩
  rcases qk h with h|h
  ·exact (xD.1 hn).1 h
  ·exact ha (by rw[<-h];exact List.mem_cons_self)
theorem Pw{l:LB}(c:l.Nodup){i j:Nat}(hi:i < l.length)(b:j < l.length)(h:l[i]=l[j]):i=j:=by
 have:=qj.1 c
 rcases Nat.lt_trichotomy i j with a|d|a
 ·exact absurd h (this i j hi b a)
 ·exact d
 ·exact absurd h.symm (this j i b hi a)
theorem Px{l:LB}(a:l.Nodup){i:Nat}(hi:i < l.length):AR l l[i]=some i:=by
 obtain ⟨j,h1,h2,h3⟩:=GO (yz (l:=l) hi)
 obtain rfl:=Pw a h2 hi h3
 exact h1
theorem SI{l:LB}(c:l.Nodup){k:Nat}(hk:k < l.length){new:ByteArray}(b:new∉l){s:ByteArray}{j i:Nat}(h:AR (l.take j) s=some i):
  AR ((l.set k new).take j) (if s=l[k] then new else s)=some i:=by
 obtain ⟨h1,h2⟩:=O5 h
 obtain ⟨_,h3⟩:=SE h1
 obtain ⟨hi,h4⟩:=yA.1 h3
 have hl:i < (l.set k new).length:=by simpa using hi
 have e:(l.set k new)[i]=if s=l[k] then new else s:=by
  rw[List.getElem_set]
  by_cases a:k=i
  ·subst a;rw[yw rfl,yw h4.symm]
  ·rw[yu a,h4,yu]
   intro hs
   exact a (Pw c hk hi (by rw[h4,hs]))
 have d:=Px (FR (k:=k) c b) hl
 rw[e] at d
 rw[F0,d]
 simp only[yw h2]
def Py(t t':Tb)(g:Int->Rf->Rf)(d:Int):Prop:=∀(j:Nat) (r:Rf),CK ((t.at d).take j) r=true->CK ((t'.at d).take j) (g d r)=true∧E4 ((t'.at d).take j) (g d r)=g d (E4 ((t.at d).take j) r)
structure PY (t t':Tb) (g:Int->Rf->Rf):Prop where
 at0:Py t t' g 0
 at1:Py t t' g 1
 at2:Py t t' g 2
 at3:Py t t' g 3
theorem Uo(l:LB){c d:Int}(hd:d≠c)(old new:ByteArray)(r:Rf)(h:CK l r=true):CK l (Ds c old new d r)=true∧E4 l (Ds c old new d r)=Ds c old new d (E4 l r):=by
 have e:∀r,Ds c old new d r=r:=fun r=>by unfold Ds;rw[yu (fun h=>hd h.1)]
 rw[e,e];exact ⟨h,rfl⟩
theorem Vw{l:LB}(d:l.Nodup){k:Nat}(hk:k < l.length){new:ByteArray}(b:new∉l)(c:Int)(j:Nat)(r:Rf)(h:CK (l.take j) r=true):
  CK ((l.set k new).take j) (Ds c l[k] new c r)=true∧E4 ((l.set k new).take j) (Ds c l[k] new c r)=Ds c l[k] new c (E4 (l.take j) r):=by
 obtain ⟨i,hi,e⟩:=SG h
 have a:=SI d hk b hi
 rw[e]
 unfold Ds
 simp only[xW]
 by_cases hs:r.name=l[k]
 ·simp only[yw hs] at a ⊢
  exact ⟨by unfold CK;rw[a];rfl,by unfold E4 KI;simp only[a]⟩
 ·simp only[yu hs] at a ⊢
  exact ⟨by unfold CK;rw[a];rfl,by unfold E4 KI;simp only[a]⟩
section
variable{t t':Tb}{g:Int->Rf->Rf}
theorem L6{d:Int}(a:Py t t' g d)(r:Rf)(hl:(t'.at d).length=(t.at d).length)(h:CK (t.at d) r=true):CK (t'.at d) (g d r)=true∧E4 (t'.at d) (g d r)=g d (E4 (t.at d) r):=by
 have:=a (t.at d).length r (by rw[yx];exact h)
 rwa [yx,<-hl,yx] at this
theorem M9(l:List Ex):(Ht g l).length=l.length:=by rw[LX];simp
mutual
theorem Up(f:PY t t' g)(k:Nat):∀e:Ex,UQ (t.lets.take k) e=true->UQ (t'.lets.take k) (AQ g e)=true∧P3 (t'.lets.take k) (AQ g e)=AQ g (P3 (t.lets.take k) e)
 |.mk op n u rn ri args,h=>by
  rw[UQ] at h
  simp only[yv] at h
  obtain ⟨j,l⟩:=RG f k args h.2.2
  rw[AQ,UQ,P3,P3,AQ,j,l,M9,h.1]
  by_cases h2:op=2
  ·have h3:=h.2.1
   rw[yw h2] at h3
   obtain ⟨i,d⟩:=f.at0 k ⟨rn,ri⟩ h3
   have a:CK (t'.lets.take k) ⟨(g 0 ⟨rn,ri⟩).name,(g 0 ⟨rn,ri⟩).n⟩=true:=i
   have b:KI (t'.lets.take k) ⟨(g 0 ⟨rn,ri⟩).name,(g 0 ⟨rn,ri⟩).n⟩=(g 0 ⟨rn,KI (t.lets.take k) ⟨rn,ri⟩⟩).n:=by have h:=yJ Rf.n d;exact h
   have c:(g 0 ⟨rn,ri⟩).name=(g 0 ⟨rn,KI (t.lets.take k) ⟨rn,ri⟩⟩).name:=by have h:=yJ Rf.name d;exact h
   simp only[yw h2,a,b]
   exact ⟨rfl,by rw[c]⟩
  ·have h3:=h.2.1
   rw[yu h2] at h3
   simp only[yu h2,h3]
   exact ⟨rfl,trivial⟩
theorem RG(a:PY t t' g)(k:Nat):∀l:List Ex,KJ (t.lets.take k) l=true->KJ (t'.lets.take k) (Ht g l)=true∧Ii (t'.lets.take k) (Ht g l)=Ht g (Ii (t.lets.take k) l)
 |[],_=>by rw[Ht,KJ,Ii,Ii,Ht];exact ⟨rfl,rfl⟩
 |e::r,h=>by
  rw[KJ] at h
  simp only[yv] at h
  obtain ⟨c,f⟩:=Up a k e h.1
  obtain ⟨b,d⟩:=RG a k r h.2
  rw[Ht,KJ,Ii,Ii,Ht,c,f,b,d]
  exact ⟨rfl,rfl⟩
end
theorem Uq(e:Ex):CQ (AQ g e)=CQ e:=by
 cases e with
 |mk op n u rn ri args=>
  rw[AQ]
  obtain ⟨c,a⟩:∃s,s=(if op=2 then (g 0 ⟨rn,ri⟩).name else rn):=⟨_,rfl⟩
  obtain ⟨d,b⟩:∃s,s=(if op=2 then (g 0 ⟨rn,ri⟩).n else ri):=⟨_,rfl⟩
  rw[<-a,<-b]
  unfold CQ Gi
  simp only[Ex.op,Ex.n,Ex.u,Ex.rn,Ex.ri,Ex.args,M9]
  by_cases h:op=2
  ·subst h;simp
  ·rw[yu h] at a b
   rw[a,b]
   rfl
theorem VZ(a:PY t t' g)(k:Nat){e:Ex}(h:GY (t.lets.take k) e=true):GY (t'.lets.take k) (AQ g e)=true∧E3 (t'.lets.take k) (AQ g e)=AQ g (E3 (t.lets.take k) e):=by
 unfold GY E3 at*
 rw[Uq]
 by_cases hl:CQ e=true
 ·simp only[hl,Bool.true_or,zX];exact ⟨trivial,trivial⟩
 ·have:=Up a k e ((qh _ _▸h).resolve_left hl)
  simp only[yj.2 hl,Bool.false_or,Bool.false_eq_true,if_false]
  exact this
theorem Iu(a:PY t t' g)(hl:t'.lets.length=t.lets.length){e:Ex}(h:GY t.lets e=true):GY t'.lets (AQ g e)=true∧E3 t'.lets (AQ g e)=AQ g (E3 t.lets e):=by
 have:=VZ a t.lets.length (e:=e) (by rw[yx];exact h)
 rwa [yx,<-hl,yx] at this
theorem Vx(a:PY t t' g){d:CF}{i:Nat}(h:Ij t d i=true):Ij t' (Hu g d) i=true∧Ez t' (Hu g d) i=Hu g (Ez t d i):=by
 have:=VZ a i h
 unfold Ez Hu Ij
 exact ⟨this.1,by simp only[this.2]⟩
theorem Pz(a:PY t t' g)(hl:t'.lets.length=t.lets.length){d:Br}(h:Gp t d=true):Gp t' (Ek g d)=true∧Ec t' (Ek g d)=Ek g (Ec t d):=by
 have:=Iu a hl h
 unfold Ec Ek Gp
 exact ⟨this.1,by simp only[this.2]⟩
theorem SJ(c:PY t t' g)(hl:t'.lets.length=t.lets.length){d:At}{i:Nat}(h:DN t d i=true):DN t' (Cj g i d) i=true∧CX t' (Cj g i d) i=Cj g i (CX t d i):=by
 unfold DN at h
 simp only[yv] at h
 obtain ⟨⟨⟨⟨⟨⟨⟨⟨a,b⟩,m⟩,l⟩,o⟩,n⟩,k⟩,j⟩,f⟩:=h
 have w:=fun {e:Ex} (h:GY t.lets e=true)=>Iu c hl h
 unfold DN CX Cj
 simp only[(w b).1,(w m).1,(w l).1,(w o).1,(w n).1,(w k).1,(w j).1,(w f).1,(w b).2,(w m).2,(w l).2,(w o).2,(w n).2,(w k).2,(w j).2,(w f).2,yX]
 by_cases hi:i=0
 ·simp only[yw hi] at a ⊢
  exact ⟨a,trivial⟩
 ·simp only[yu hi] at a ⊢
  have:=c.at2 i d.frm a
  have e1:t'.at 2=t'.reaches:=rfl
  have e2:t.at 2=t.reaches:=rfl
  rw[e1,e2] at this
  exact ⟨this.1,by rw[this.2]⟩
theorem L7(b:PY t t' g)(a:t'.reaches.length=t.reaches.length){r:Rf}(h:CK t.reaches r=true):CK t'.reaches (g 2 r)=true∧E4 t'.reaches (g 2 r)=g 2 (E4 t.reaches r):=L6 b.at2 r a h
theorem PA(b:PY t t' g)(hl:t'.lets.length=t.lets.length)(hc:t'.crops.length=t.crops.length)(f:t'.reaches.length=t.reaches.length){d:Bd}(h:F6 t d=true):F6 t' (DJ g d)=true∧Eb t' (DJ g d)=DJ g (Eb t d):=by
 unfold F6 at h
 simp only[yv] at h
 have w:=Iu b hl h.2
 have a:=L7 b f h.1.1
 unfold F6 Eb DJ
 simp only[w.1,w.2,a.1,a.2,yX,xP]
 by_cases e:d.river=true
 ·have k:=h.1.2
  simp only[yw e] at k ⊢
  exact ⟨k,trivial⟩
 ·have k:=h.1.2
  simp only[yu e] at k ⊢
  have c:=L6 b.at1 d.crop hc k
  exact ⟨c.1,by rw[show t.crops=t.at 1 from rfl,<-c.2];rfl⟩
theorem RH(b:PY t t' g)(a:t'.farms.length=t.farms.length){r:Rf}(h:CK t.farms r=true):CK t'.farms (g 3 r)=true∧E4 t'.farms (g 3 r)=g 3 (E4 t.farms r):=L6 b.at3 r a h
theorem PB(b:PY t t' g)(hl:t'.lets.length=t.lets.length)(c:t'.farms.length=t.farms.length){d:Bv}(h:FM t d=true):FM t' (FG g d)=true∧GZ t' (FG g d)=FG g (GZ t d):=by
 unfold FM at h
 simp only[yv] at h
 have w:=Iu b hl h.2
 have a:=L6 b.at3 d.farm c h.1
 have f:CK t'.farms (g 3 d.farm)=true:=a.1
 have e:E4 t'.farms (g 3 d.farm)=g 3 (E4 t.farms d.farm):=a.2
 unfold FM GZ FG
 simp only[w.1,w.2,f,e,yX]
 exact ⟨trivial,trivial⟩
theorem RM(b:PY t t' g)(hl:t'.lets.length=t.lets.length)(n:t'.reaches.length=t.reaches.length)(f:t'.farms.length=t.farms.length){d:B6}(h:Hr t d=true):Hr t' (Fm g d)=true∧FN t' (Fm g d)=Fm g (FN t d):=by
 unfold Hr at h
 simp only[yv,yO] at h
 obtain ⟨⟨⟨⟨m,k⟩,i⟩,l⟩,j⟩:=h
 have w:=fun {e:Ex} (h:GY t.lets e=true)=>Iu b hl h
 have a:=L7 b n m
 unfold Hr FN Fm
 simp only[(w k).1,(w i).1,(w l).1,(w k).2,(w i).2,(w l).2,a.1,a.2,yX,xP,List.all_map,xZ]
 refine ⟨?_,?_⟩
 ·rw[yO]
  intro z c
  exact (PB b hl f (j z c)).1
 ·congr 1
  exact zV fun z c=>(PB b hl f (j z c)).2
theorem Nn(c:PY t t' g)(hl:t'.lets.length=t.lets.length)(r:t'.reaches.length=t.reaches.length)(p:t'.farms.length=t.farms.length){d:AG}(h:Ey t d=true):Ey t' (Ck g d)=true∧DU t' (Ck g d)=Ck g (DU t d):=by
 unfold Ey at h
 simp only[yv] at h
 obtain ⟨⟨⟨⟨⟨⟨⟨⟨o,s⟩,q⟩,b⟩,n⟩,k⟩,j⟩,i⟩,m⟩:=h
 have w:=fun {e:Ex} (h:GY t.lets e=true)=>Iu c hl h
 have a:=RH c p o
 unfold Ey DU Ck
 simp only[(w n).1,(w k).1,(w j).1,(w i).1,(w m).1,(w n).2,(w k).2,(w j).2,(w i).2,(w m).2,a.1,a.2,s,q,yX,xP]
 by_cases f:d.kind=1
 ·simp only[yw f] at b ⊢
  exact ⟨b,trivial⟩
 ·simp only[yu f] at b ⊢
  have l:=L7 c r b
  exact ⟨l.1,by rw[l.2]⟩
theorem PC(c:PY t t' g)(hl:t'.lets.length=t.lets.length)(f:t'.reaches.length=t.reaches.length)(e:t'.farms.length=t.farms.length){d:BR}(h:FK t d=true):FK t' (Dz g d)=true∧Ew t' (Dz g d)=Dz g (Ew t d):=by
 unfold FK at h
 simp only[yv] at h
 have w:=Iu c hl h.2
 have a:=RH c e h.1.1
 have b:=L7 c f h.1.2
 unfold FK Ew Dz
 simp only[w.1,w.2,a.1,a.2,b.1,b.2,yX]
 exact ⟨trivial,trivial⟩
theorem Vy(b:PY t t' g)(hl:t'.lets.length=t.lets.length)(hc:t'.crops.length=t.crops.length)(j:t'.reaches.length=t.reaches.length)(m:t'.farms.length=t.farms.length){x:Am}(h:EZ t x=true):EZ t' (Df g x)=true∧FO t' (Df g x)=Df g (FO t x):=by
 unfold EZ IJ at h
 simp only[yv,yO] at h
 obtain ⟨⟨⟨⟨⟨⟨⟨⟨⟨h1,h2⟩,h3⟩,h4⟩,h5⟩,h6⟩,s⟩,u⟩,z⟩,n⟩:=h
 have w:=fun {e:Ex} (h:GY t.lets e=true)=>Iu b hl h
 have o:∀ {α β:Type} {l:List α} {F:Nat->α->β},(l.zipIdx.map fun p=>F p.2 p.1).zipIdx=l.zipIdx.map fun p=>(F p.2 p.1,p.2):=by
  intro α β l F
  refine zn (by simp) fun i h1 h2=>?_
  simp
 have y:∀ {α β:Type} {l:List α} {F:α->β},(l.map F).zipIdx=l.zipIdx.map fun p=>(F p.1,p.2):=by
  intro α β l F
  refine zn (by simp) fun i h1 h2=>?_
  simp
 have r:=fun p c=>Vx b (h4 p c)
 have v:=fun p c=>SJ b hl (h6 p c)
 constructor
 ·unfold EZ IJ Df
  simp only[yv,yO]
  refine ⟨⟨⟨⟨⟨⟨⟨⟨⟨(w h1).1,(w h2).1⟩,(w h3).1⟩,?_⟩,?_⟩,?_⟩,?_⟩,?_⟩,?_⟩,?_⟩
  ·rw[y]
   intro p c
   obtain ⟨q,k,rfl⟩:=zy.1 c
   exact (r q k).1
  ·intro d hd
   obtain ⟨f,a,rfl⟩:=zy.1 hd
   exact (Pz b hl (h5 f a)).1
  ·rw[o (F:=fun i d=>Cj g i d)]
   intro p c
   obtain ⟨q,k,rfl⟩:=zy.1 c
   exact (v q k).1
  ·intro d hd
   obtain ⟨f,a,rfl⟩:=zy.1 hd
   exact (PA b hl hc j (s f a)).1
  ·intro d hd
   obtain ⟨f,a,rfl⟩:=zy.1 hd
   exact (RM b hl j m (u f a)).1
  ·intro d hd
   obtain ⟨f,a,rfl⟩:=zy.1 hd
   exact (Nn b hl j m (z f a)).1
  ·intro d hd
   obtain ⟨f,a,rfl⟩:=zy.1 hd
   exact (PC b hl j m (n f a)).1
 ·unfold FO IU Df
  simp only[(w h1).2,(w h2).2,(w h3).2,xZ]
  have e1:((x.lets.map (Hu g)).zipIdx.map fun p=>Ez t' p.1 p.2)=(x.lets.zipIdx.map fun p=>Ez t p.1 p.2).map (Hu g):=by
   rw[y,xZ,xZ]
   exact zV fun p c=>(r p c).2
  have e2:x.crops.map (Ec t'∘Ek g)=x.crops.map (Ek g∘Ec t):=zV fun d hd=>(Pz b hl (h5 d hd)).2
  have A:((x.reaches.zipIdx.map fun p=>Cj g p.2 p.1).zipIdx.map fun p=>CX t' p.1 p.2)=((x.reaches.zipIdx.map fun p=>CX t p.1 p.2).zipIdx.map fun p=>Cj g p.2 p.1):=by
   rw[o (F:=fun i d=>Cj g i d),o (F:=fun i d=>CX t d i),xZ,xZ]
   exact zV fun p c=>(v p c).2
  have E:x.farms.map (Eb t'∘DJ g)=x.farms.map (DJ g∘Eb t):=zV fun d hd=>(PA b hl hc j (s d hd)).2
  have C:x.rots.map (FN t'∘Fm g)=x.rots.map (Fm g∘FN t):=zV fun d hd=>(RM b hl j m (u d hd)).2
  have B:x.rights.map (DU t'∘Ck g)=x.rights.map (Ck g∘DU t):=zV fun d hd=>(Nn b hl j m (z d hd)).2
  have D:x.duties.map (Ew t'∘Dz g)=x.duties.map (Dz g∘Ew t):=zV fun d hd=>(PC b hl j m (n d hd)).2
  rw[e1,A]
  simp only[e2,E,C,B,D,xZ]
end
def gM(g:Int->Rf->Rf)(c:Int)(r:Rf):Rf:=if c=0 then r else if c=3 then g 1 r else if c=5 then g 3 r else g 2 r
theorem Hv(g:Int->Rf->Rf)(x:Am):Df g x=x.mp (fun _=>AQ g) (gM g):=by
 have e1:x.lets.map (Hu g)=x.lets.mapIdx (CF.mp fun _=>AQ g):=C9 fun i hi=>rfl
 have e2:x.crops.map (Ek g)=x.crops.mapIdx (Br.mp fun _=>AQ g):=C9 fun i hi=>rfl
 have e3:(x.reaches.zipIdx.map fun p=>Cj g p.2 p.1)=x.reaches.mapIdx (At.mp (fun _=>AQ g) (gM g)):=by
  refine Jl (f:=fun d i=>Cj g i d) fun i hi=>?_
  unfold Cj At.mp gM
  by_cases h:i=0
  ·simp[h]
  ·simp[h]
 have e4:x.farms.map (DJ g)=x.farms.mapIdx (Bd.mp (fun _=>AQ g) (gM g)):=C9 fun i hi=>by
  unfold DJ Bd.mp gM
  by_cases h:(x.farms[i]).river=true
  ·simp[h]
  ·simp[h]
 have et:∀l:List Bv,l.map (FG g)=l.mapIdx (Bv.mp (fun _=>AQ g) (gM g)):=fun l=>C9 fun i hi=>rfl
 have e5:x.rots.map (Fm g)=x.rots.mapIdx (B6.mp (fun _=>AQ g) (gM g)):=C9 fun i hi=>by
  unfold Fm B6.mp
  rw[et]
  rfl
 have e6:x.rights.map (Ck g)=x.rights.mapIdx (AG.mp (fun _=>AQ g) (gM g)):=C9 fun i hi=>by
  unfold Ck AG.mp gM
  by_cases h:(x.rights[i]).kind=1
  ·simp[h]
  ·simp[h]
 have e7:x.duties.map (Dz g)=x.duties.mapIdx (BR.mp (fun _=>AQ g) (gM g)):=C9 fun i hi=>rfl
 unfold Df Am.mp
 rw[e1,e2,e3,e4,e5,e6,e7]
mutual
theorem Km(g:Int->Rf->Rf):∀e:Ex,AJ (AQ g e)=AJ e
 |.mk op n u rn ri args=>by rw[AQ,AJ,AJ,Ma g args]
theorem Ma(g:Int->Rf->Rf):∀l:List Ex,Bq (Ht g l)=Bq l
 |[]=>by rw[Ht]
 |e::r=>by rw[Ht,Bq,Bq,Km g e,Ma g r]
end
theorem Ur{f:Int->Ex->Ex}{g:Int->Rf->Rf}(a:∀i e,AJ (f i e)=AJ e){x:Am}(h:B9 x=true):B9 (x.mp f g)=true:=by
 unfold B9 at h ⊢
 simp only[yv] at h ⊢
 obtain ⟨h1,h2,h3⟩:=h
 refine ⟨?_,?_,?_⟩
 ·unfold Ju at h1 ⊢
  simpa[Am.mp] using h1
 ·unfold Gl at h2 ⊢
  refine DQ h2 fun i d h=>?_
  simpa[B6.mp] using h
 ·unfold Es at h3 ⊢
  rw[IQ,List.all_map]
  rw[yO] at h3 ⊢
  intro e b
  simpa[QE,a] using h3 e b
def Jm{α:Type}(f:α->ByteArray->α)(on:Bool)(k:Nat)(new:ByteArray)(i:Nat)(d:α):α:=if on=true∧i=k then f d new else d
def BE(c k:Nat)(new:ByteArray)(x:Am):Am:=
 {x with lets:=x.lets.mapIdx (Jm (fun d s=>{d with name:=s}) (c==0) k new),crops:=x.crops.mapIdx (Jm (fun d s=>{d with name:=s}) (c==1) k new),reaches:=x.reaches.mapIdx (Jm (fun d s=>{d with name:=s}) (c==2) k new),farms:=x.farms.mapIdx (Jm (fun d s=>{d with name:=s}) (c==3) k new)}
theorem El{α:Type}{f:α->ByteArray->α}{n:α->ByteArray}(h:∀d s,n (f d s)=s)(on:Bool)(k:Nat)(new:ByteArray)(l:List α):(l.mapIdx (Jm f on k new)).map n=if on then (l.map n).set k new else l.map n:=by
 refine zn (by cases on<;>simp) fun i h1 h2=>?_
 cases on with
 |false=>simp[Jm]
 |true=>
  simp only[zX,zF,zs,List.getElem_set,Jm,xW]
  by_cases a:i=k
  ·rw[yw a,yw a.symm,h]
  ·rw[yu a,yu (fun e=>a e.symm)]
theorem O6{α:Type}{f:α->ByteArray->α}{p:α->Nat->Bool}(h:∀d s i,p (f d s) i=p d i)(on:Bool)(k:Nat)(new:ByteArray)(l:List α):((l.mapIdx (Jm f on k new)).zipIdx.all fun q=>p q.1 q.2)=l.zipIdx.all fun q=>p q.1 q.2:=by
 rw[BP,List.all_map]
 congr 1
 funext q
 simp only[Function.comp_apply,Jm]
 split
 ·rw[h]
 ·rfl
theorem PD{α:Type}{f:α->ByteArray->α}{p:α->Bool}(h:∀d s,p (f d s)=p d)(on:Bool)(k:Nat)(new:ByteArray)(l:List α):(l.mapIdx (Jm f on k new)).all p=l.all p:=by
 have:=O6 (p:=fun d _=>p d) (f:=f) (fun d s _=>h d s) on k new l
 rw[Gq,Gq] at this
 exact this
theorem RN{α β:Type}{f:α->ByteArray->α}{f':β->ByteArray->β}{m:α->Nat->β}(h:∀d s i,m (f d s) i=f' (m d i) s)(on:Bool)(k:Nat)(new:ByteArray)(l:List α):((l.mapIdx (Jm f on k new)).zipIdx.map fun q=>m q.1 q.2)=(l.zipIdx.map fun q=>m q.1 q.2).mapIdx (Jm f' on k new):=by
 refine zn (by simp) fun i h1 h2=>?_
 simp only[zF,xg,zs,Jm,yB]
 split
 ·rw[h]
 ·rfl
theorem PE{α β:Type}{f:α->ByteArray->α}{f':β->ByteArray->β}{m:α->β}(h:∀d s,m (f d s)=f' (m d) s)(on:Bool)(k:Nat)(new:ByteArray)(l:List α):(l.mapIdx (Jm f on k new)).map m=(l.map m).mapIdx (Jm f' on k new):=by
 refine zn (by simp) fun i h1 h2=>?_
 simp only[zF,zs,Jm]
 split
 ·rw[h]
 ·rfl
section
variable{t:Tb}(c k:Nat)(new:ByteArray)
theorem Ut(x:Am):EZ t (BE c k new x)=EZ t x:=by
 unfold EZ IJ BE
 simp only
 rw[O6 (f:=fun (d:CF) s=>{d with name:=s}) (p:=fun (d:CF) i=>Ij t d i) (fun _ _ _=>rfl),PD (f:=fun (d:Br) s=>{d with name:=s}) (p:=Gp t) (fun _ _=>rfl),O6 (f:=fun (d:At) s=>{d with name:=s}) (p:=fun (d:At) i=>DN t d i) (fun _ _ _=>rfl),PD (f:=fun (d:Bd) s=>{d with name:=s}) (p:=F6 t) (fun _ _=>rfl)]
theorem SK(x:Am):FO t (BE c k new x)=BE c k new (FO t x):=by
 unfold FO IU BE
 simp only
 rw[RN (f:=fun (d:CF) s=>{d with name:=s}) (m:=fun (d:CF) i=>Ez t d i) (f':=fun d s=>{d with name:=s}) (fun _ _ _=>rfl),PE (f:=fun (d:Br) s=>{d with name:=s}) (m:=Ec t) (f':=fun d s=>{d with name:=s}) (fun _ _=>rfl),RN (f:=fun (d:At) s=>{d with name:=s}) (m:=fun (d:At) i=>CX t d i) (f':=fun d s=>{d with name:=s}) (fun _ _ _=>rfl),PE (f:=fun (d:Bd) s=>{d with name:=s}) (m:=Eb t) (f':=fun d s=>{d with name:=s}) (fun _ _=>rfl)]
theorem Kn(x:Am):AN (BE c k new x)=AN x:=by
 have a:∀ {α:Type} {f:α->ByteArray->α} {p:α->Nat->List KD} (_:∀d s i,p (f d s) i=p d i) (on:Bool) (l:List α),((l.mapIdx (Jm f on k new)).zipIdx.flatMap fun q=>p q.1 q.2)=l.zipIdx.flatMap fun q=>p q.1 q.2:=by
  intro α f p h on l
  rw[BP,zY]
  congr 1
  funext q
  simp only[Jm]
  split
  ·rw[h]
  ·rfl
 unfold AN Ie Fu Du Fv BE
 simp only
 rw[a (f:=fun (d:CF) s=>{d with name:=s}) (p:=fun (d:CF) (i:Nat)=> [(d.value,1+(i:Int))]) (fun _ _ _=>rfl),a (f:=fun (d:Br) s=>{d with name:=s}) (p:=fun (d:Br) (_:Nat)=> [(d.need,0)]) (fun _ _ _=>rfl),a (f:=fun (d:At) s=>{d with name:=s}) (p:=fun (d:At) (_:Nat)=> [(d.delay,0),(d.cap,0),(d.bank,0),(d.siphon,0),(d.evap0,0),(d.evap1,0),(d.seep0,0),(d.seep1,0)]) (fun _ _ _=>rfl),a (f:=fun (d:Bd) s=>{d with name:=s}) (p:=fun (d:Bd) (_:Nat)=> [(d.area,0)]) (fun _ _ _=>rfl)]
theorem SM{x:Am}(h:B9 x=true):B9 (BE c k new x)=true:=by
 unfold B9 at h ⊢
 simp only[yv] at h ⊢
 refine ⟨?_,h.2.1,?_⟩
 ·have:=h.1
  unfold Ju at this ⊢
  unfold BE
  simp only[xS]
  exact this
 ·have:=h.2.2
  unfold Es at this ⊢
  rw[Kn];exact this
theorem Vz(x:Am):Tb.of (BE c k new x)=⟨if c==0 then (Tb.of x).lets.set k new else (Tb.of x).lets,if c==1 then (Tb.of x).crops.set k new else (Tb.of x).crops,if c==2 then (Tb.of x).reaches.set k new else (Tb.of x).reaches,if c==3 then (Tb.of x).farms.set k new else (Tb.of x).farms⟩:=by
 unfold Tb.of BE
 simp only
 rw[El (f:=fun (d:CF) s=>{d with name:=s}) (n:=fun d:CF=>d.name) (fun _ _=>rfl),El (f:=fun (d:Br) s=>{d with name:=s}) (n:=fun d:Br=>d.name) (fun _ _=>rfl),El (f:=fun (d:At) s=>{d with name:=s}) (n:=fun d:At=>d.name) (fun _ _=>rfl),El (f:=fun (d:Bd) s=>{d with name:=s}) (n:=fun d:Bd=>d.name) (fun _ _=>rfl)]
end
theorem L8{l:LB}{p:ByteArray->Bool}{k:Nat}{a:ByteArray}(h:l.all p=true)(b:p a=true):(l.set k a).all p=true:=by
 rw[yO] at h ⊢
 intro s hs
 rcases qk hs with hs|rfl
 ·exact h s hs
 ·exact b
theorem QJ{x:Am}(h:Ay x=0){c k:Nat}(hc:c < 4){old new:ByteArray}(hk:((Tb.of x).at c)[k]?=some old)(a:new∉(Tb.of x).at c)(l:AH new=true):
  Ay (BE c k new (Df (Ds c old new) x))=0∧Ab (BE c k new (Df (Ds c old new) x))=BE c k new (Df (Ds c old new) (Ab x)):=by
 obtain ⟨h1,h2,h3,h4,h5⟩:=F1 h
 have B:EZ (Tb.of x) x=true:=by rw[Rq,h4,h5];rfl
 have y:=JN B
 have o:=Uk h3
 have J:Tb.of (Df (Ds c old new) x)=Tb.of x:=by rw[Hv];exact Um x
 have p:=Vz c k new (Df (Ds c old new) x)
 rw[J] at p
 obtain ⟨t',q⟩:∃t',t'=Tb.of (BE c k new (Df (Ds c old new) x)):=⟨_,rfl⟩
 rw[<-q] at p
 obtain ⟨w,rfl⟩:=yA.1 hk
 have b:∀d:Int,(∃n:Nat,d=n∧n < 4)->t'.at d=if d=(c:Int) then ((Tb.of x).at d).set k new else (Tb.of x).at d:=by
  rintro d ⟨n,rfl,t⟩
  rw[p]
  obtain rfl|rfl|rfl|rfl:c=0∨c=1∨c=2∨c=3:=by omega
  all_goals
   obtain rfl|rfl|rfl|rfl:n=0∨n=1∨n=2∨n=3:=by omega
   all_goals rfl
 have g:((Tb.of x).at c).Nodup:=by
  obtain rfl|rfl|rfl|rfl:c=0∨c=1∨c=2∨c=3:=by omega
  ·exact o.lets
  ·exact o.crops
  ·exact o.reaches
  ·exact o.farms
 have m:∀(d:Int),(∃n:Nat,d=n∧n < 4)->∀(j:Nat) (r:Rf),CK (((Tb.of x).at d).take j) r=true->CK ((t'.at d).take j) (Ds c ((Tb.of x).at c)[k] new d r)=true∧E4 ((t'.at d).take j) (Ds c ((Tb.of x).at c)[k] new d r)=Ds c ((Tb.of x).at c)[k] new d (E4 (((Tb.of x).at d).take j) r):=by
  intro d hd j r z
  rw[b d hd]
  by_cases i:d=(c:Int)
  ·subst i
   rw[yw rfl]
   exact Vw g w a c j r z
  ·rw[yu i]
   exact Uo _ i _ _ r z
 have N:PY (Tb.of x) t' (Ds c ((Tb.of x).at c)[k] new):=⟨m 0 ⟨0,rfl,by omega⟩,m 1 ⟨1,rfl,by omega⟩,m 2 ⟨2,rfl,by omega⟩,m 3 ⟨3,rfl,by omega⟩⟩
 have hl:∀d:Int,(∃n:Nat,d=n∧n < 4)->(t'.at d).length=((Tb.of x).at d).length:=by
  intro d hd
  rw[b d hd]
  split<;>simp
 obtain ⟨G,M⟩:=Vy N (hl 0 ⟨0,rfl,by omega⟩) (hl 1 ⟨1,rfl,by omega⟩) (hl 2 ⟨2,rfl,by omega⟩) (hl 3 ⟨3,rfl,by omega⟩) B
 generalize ((Tb.of x).at c)[k]=old at*
 have v:EZ t' (BE c k new (Df (Ds c old new) x))=true:=by rw[Ut];exact G
 have A:FO t' (BE c k new (Df (Ds c old new) x))=BE c k new (Df (Ds c old new) (Ab x)):=by rw[SK,M,y]
 have H:B9 (BE c k new (Df (Ds c old new) x))=true:=by
  refine SM c k new ?_
  rw[Hv]
  exact Ur (fun _ e=>Km _ e) h1
 have L:Eu (BE c k new (Df (Ds c old new) x)):=by
  have u:Eu (Df (Ds c old new) x):=by rw[Hv];exact Vv x h3
  have t:VY t':=by
   refine ⟨?_,?_,?_,?_⟩
   ·have:=b 0 ⟨0,rfl,by omega⟩
    show (t'.at 0).Nodup
    rw[this]
    split
    ·rename_i i;rw[i];exact FR g a
    ·exact o.lets
   ·have:=b 1 ⟨1,rfl,by omega⟩
    show (t'.at 1).Nodup
    rw[this]
    split
    ·rename_i i;rw[i];exact FR g a
    ·exact o.crops
   ·have:=b 2 ⟨2,rfl,by omega⟩
    show (t'.at 2).Nodup
    rw[this]
    split
    ·rename_i i;rw[i];exact FR g a
    ·exact o.reaches
   ·have:=b 3 ⟨3,rfl,by omega⟩
    show (t'.at 3).Nodup
    rw[this]
    split
    ·rename_i i;rw[i];exact FR g a
    ·exact o.farms
  rw[q] at t
  exact ⟨t.lets,t.crops,t.reaches,t.farms,u.2.2.2.2.1,u.2.2.2.2.2⟩
 have I:Cs (BE c k new (Df (Ds c old new) x))=true:=by
  have u:Cs (Df (Ds c old new) x)=true:=by rw[Hv,Un];exact h2
  unfold Cs at u ⊢
  unfold BE
  simp only[yv] at u ⊢
  rw[El (f:=fun (d:CF) s=>{d with name:=s}) (n:=fun d:CF=>d.name) (fun _ _=>rfl),El (f:=fun (d:Br) s=>{d with name:=s}) (n:=fun d:Br=>d.name) (fun _ _=>rfl),El (f:=fun (d:At) s=>{d with name:=s}) (n:=fun d:At=>d.name) (fun _ _=>rfl),El (f:=fun (d:Bd) s=>{d with name:=s}) (n:=fun d:Bd=>d.name) (fun _ _=>rfl)]
  obtain ⟨m1,C,F,D,E,K⟩:=u
  refine ⟨m1,?_,?_,?_,?_,K⟩
  ·split
   ·exact L8 C l
   ·exact C
  ·split
   ·exact L8 F l
   ·exact F
  ·split
   ·exact L8 D l
   ·exact D
  ·split
   ·exact L8 E l
   ·exact E
 rw[q] at v A
 refine ⟨?_,(JN v).symm.trans A⟩
 unfold Ay
 rw[Rq] at v
 rw[yw H,yw I,yw L,yw v]
set_option linter.unusedSimpArgs false
def FT:ByteArray:={data:=#[122,122,95,57]}
structure PZ (Bc Ba Bk:Nat) (hd:Ai) (nms:List ByteArray) (c:Int) (k:Nat) (W:World):Prop where
 cb:W.heap[Bc]?=some (.cells #[.int .i64 c] 3 (0,0))
 ab:W.heap[Ba]?=some (.cells #[hd.v] 43 (0,0))
 kb:W.heap[Bk]?=some (.cells #[.int .i64 (k:Int)] 3 (0,0))
 nm:SN (BD Bc (Bk+1)) W hd nms
theorem PZ.to{Bc Ba Bk:Nat}{hd:Ai}{nms:LB}{c:Int}{k:Nat}{W W':World}(h:PZ Bc Ba Bk hd nms c k W)(h1:Bc < Ba)(h2:Ba < Bk)(hb:∀j,BD Bc (Bk+1) j->W'.heap[j]?=W.heap[j]?)(hs:W.heap.size<=W'.heap.size):PZ Bc Ba Bk hd nms c k W':=
 ⟨(hb _ ⟨by omega,by omega⟩).trans h.cb,(hb _ ⟨by omega,by omega⟩).trans h.ab,(hb _ ⟨by omega,by omega⟩).trans h.kb,h.nm.to hb hs (fun _ h=>h)⟩
theorem PF{Bc Ba Bk:Nat}{hd:Ai}{nms:LB}{c:Int}{k:Nat}(h1:Bc < Ba)(h2:Ba < Bk)(hk:k < nms.length){W:World}{d:Int}{B o:Nat}{p:LV}{r:Rf}{s:LV}{ty:TypeId}(f:PZ Bc Ba Bk hd nms c k W)
 (K:W.heap[B]?=some (.cells (p++(An r++s)).toArray ty (0,0)))(L:p.length=o)(T:¬ BD Bc (Bk+1) B):
  Calls Try.prog 20 #[.int .i64 d,.pointer (some ⟨B,o,none⟩),.pointer (some ⟨Bc,0,none⟩),.pointer (some ⟨Ba,0,none⟩),.pointer (some ⟨Bk,0,none⟩)] W
   fun e W'=>e=.returned (.tuple #[])∧PZ Bc Ba Bk hd nms c k W'∧WX (BD Bc (Bk+1)) W W' B (p++(An (Ds c nms[k] FT d r)++s)) ty:=by
 obtain ⟨rn,ri⟩:=r
 obtain ⟨Q,l,hc⟩:=hd
 have U:W.cell? (aV Bc 0)=some (iV c):=by simp[World.cell?,f.cb]
 have Z:W.cell? (aV Ba 0)=some (.slice Q l hc):=by simp[World.cell?,f.ab,Ai.v]
 have a0:W.cell? (aV Bk 0)=some (iV (k:Int)):=by simp[World.cell?,f.kb]
 have g:=AO (Aw K)
 rw[L,yB] at g
 have a1:W.cell? (aV B o)=some (.string rn):=by
  have:=g 0 (.string rn) rfl
  simpa using this
 obtain ⟨C,D,cs,he,hb,hl,u,w,x,E⟩:=f.nm.nm.2.2 k hk
 obtain rfl:Q=some (aV C D):=he
 have G:W.cell? (aV C (D+k))=some (.string nms[k]):=by
  have:=u 0 _ x
  simpa using this
 have i:l=nms.length:=f.nm.nm.1
 have P:l<=140737488355328:=by rw[i];exact f.nm.nm.2.1
 have X:(k:Int) < (l:Int):=by omega
 have R:=yb f;have S:=yb K;have Y:=yb T;have V:=yb L;have M:=yb h1;have O:=yb h2
 have y:Hid (∀r,Ds c nms[k] FT d r=if d=c∧r.name=nms[k] then ⟨FT,r.n⟩ else r):=yb (fun _=>rfl)
 generalize Ds c nms[k] FT d=z at y ⊢
 generalize nms[k]=old at G y
 have N:Hid (z ⟨rn,ri⟩=⟨rn,ri⟩->(PZ Bc Ba Bk ⟨some (aV C D),l,hc⟩ nms c k W.drew∧WX (BD Bc (Bk+1)) W W.drew B (p++(An (z ⟨rn,ri⟩)++s)) ty)):=yb (fun h=>by
  rw[h]
  exact ⟨R.o.to M.o O.o (fun _ _=>rfl) (yf _),rfl,rfl,rfl,rfl,S.o,fun _ _ _=>rfl⟩)
 clear f K T L g u w x E hl hb h1 h2 i
 go_enter Try.func20,Try.ntmps20
 go_wp2_with fail
 by_cases hd:d=c
 ·have I:(d==c)=true:=by simpa using hd
  by_cases hs:rn=old
  ·have A:Hid (z ⟨rn,ri⟩=⟨FT,ri⟩):=yb (by rw[y.o,yw ⟨hd,hs⟩])
   subst hs
   have F:(rn.toList==rn.toList)=true:=by simp
   have H:Hid (W.drew.heap[B]?=some (.cells (p++(Value.string rn::(iV ri::s))).toArray ty (0,0))):=yb (by
    show W.heap[B]?=_
    have h:=S.o
    simpa[An] using h)
   clear hd
   go_region
   go_wp2_with (first|(refine Al rfl 9 _ _ rfl B o rfl (.string FT) rfl (by kernel_rfl) (p:=p) (m:=.string rn) (q:=iV ri::s) (t:=ty) H.o V.o (by kernel_rfl) (by kernel_rfl) ?_;intro w7 b;have a:Hid (Au W w7 B (p++(An ⟨FT,ri⟩++s)) ty):=yb ⟨b.os,b.tape,b.output,b.size,b.row,b.block⟩;clear b))
   refine bodyPost_end (zx rfl _ _ _) rfl ⟨rfl,?_,?_⟩
   ·exact R.o.to M.o O.o (fun j J=>a.o.block j (fun e=>Y.o (e▸J))) (by rw[a.o.size];exact yf _)
   ·rw[A.o]
    exact ⟨a.o.os,a.o.tape,a.o.output,a.o.size,a.o.row,fun j J _=>a.o.block j J⟩
  ·have A:Hid (z ⟨rn,ri⟩=⟨rn,ri⟩):=yb (by rw[y.o,yu (fun h=>hs h.2)])
   have F:(rn.toList==old.toList)=false:=by
    rw[beq_eq_false_iff_ne];exact fun h=>hs (Ms.1 h)
   clear hd hs
   go_region
   go_wp2
   exact bodyPost_end (zx rfl _ _ _) rfl ⟨rfl,N.o A.o⟩
 ·have A:Hid (z ⟨rn,ri⟩=⟨rn,ri⟩):=yb (by rw[y.o,yu (fun h=>hd h.1)])
  have I:(d==c)=false:=by simpa using hd
  clear hd
  go_region
  go_wp2
  exact bodyPost_end (zx rfl _ _ _) rfl ⟨rfl,N.o A.o⟩
theorem SO{Bc Ba Bk:Nat}{hd:Ai}{nms:LB}{c:Int}{k:Nat}(h1:Bc < Ba)(h2:Ba < Bk)(hk:k < nms.length):KK 20 #[.pointer (some ⟨Bc,0,none⟩),.pointer (some ⟨Ba,0,none⟩),.pointer (some ⟨Bk,0,none⟩)] (BD Bc (Bk+1)) (Ds c nms[k] FT) (fun _ _=>true) (fun _ W=>PZ Bc Ba Bk hd nms c k W) where
 stab b W W' hJ hb hs:=hJ.to h1 h2 hb hs
 lt b W hJ j hj:=by have:=hj.2;have:=(ye.1 hJ.kb).1;omega
 enter args w:=by kernel_rfl
 name d r h:=by
  unfold Ds
  split
  ·show FT.size<=maxLen
   decide
  ·exact h
 call b W d B o p r s t hJ hW hp hB _ _ _:=PF h1 h2 hk hJ hW hp hB
set_option linter.unusedSimpArgs false
structure JO (W W':World) (b q:Nat) (v:Value):Prop where
 os:W'.os=W.os
 tape:W'.tape=W.tape
 output:W'.output=W.output
 size:W'.heap.size=W.heap.size
 block:∀j,j≠b->W'.heap[j]?=W.heap[j]?
 cell:∀p,p≠q->W'.cell? ⟨b,p,none⟩=W.cell? ⟨b,p,none⟩
 new:W'.cell? ⟨b,q,none⟩=some v
theorem Ld{α:Type}(f:α->ByteArray->α)(k:Nat)(new:ByteArray)(l:List α):l.mapIdx (Jm f false k new)=l:=by
 refine zn (by simp) fun i h1 h2=>?_
 simp[Jm]
theorem Le{δ:Type}{V:NP->World->LV->δ->Prop}{M N N':NP}{W W':World}{sz:Nat}{h:Ai}{l:List δ}{f:δ->ByteArray->δ}{k:Nat}{new:ByteArray}{b o:Nat}(hs:G5 V)(B:Av M W sz (V N W) h l)(p:h.a=some ⟨b,o,none⟩)(n:JO W W' b (o+k*sz) (.string new))(s:∀j,N j->j≠b)(q:∀j,N j->N' j)(m:∀j,M j->N' j)
 (z:∀(N:NP) (w:World) (cs:LV) (d:δ),V N w cs d->∃nm r,cs=.string nm::r∧V N w (.string new::r) (f d new)):Av N' W' sz (V N' W') h (l.mapIdx (Jm f true k new)):=by
 obtain ⟨h1,h2,h3⟩:=B
 refine ⟨by simpa using h1,by simpa using h2,fun i hi=>?_⟩
 rw[xS] at hi
 obtain ⟨b',A,cs,g1,y,t,u,E⟩:=h3 i hi
 rw[p] at g1
 obtain ⟨rfl,rfl⟩:b=b'∧o=A:=by simpa using g1
 have x:V N' W' cs l[i]:=hs _ _ _ _ _ _ q (fun j g=>n.block j (s j g)) E
 by_cases hk:i=k
 ·subst hk
  obtain ⟨nm,r,rfl,D⟩:=z _ _ _ _ x
  refine ⟨b,o,.string new::r,p,m _ y,by simpa using t,?_,?_⟩
  ·intro j v g
   cases j with
   |zero=>
    obtain rfl:Value.string new=v:=by simpa using g
    exact n.new
   |succ j=>
    rw[n.cell _ (by omega)]
    exact u (j+1) v (by simpa using g)
  ·rw[zs]
   simpa[Jm] using D
 ·refine ⟨b,o,cs,p,m _ y,t,?_,?_⟩
  ·intro j v g
   have C:j < sz:=by rw[<-t];exact (yA.1 g).1
   rw[n.cell _ ?_]
   ·exact u j v g
   ·intro e
    have e2:i*sz+j=k*sz:=by omega
    rcases Nat.lt_or_gt_of_ne hk with c|c
    ·have:=qe sz (show i+1<=k from c)
     rw[qq,qt] at this
     omega
    ·have:=qe sz (show k+1<=i from c)
     rw[qq,qt] at this
     omega
  ·rw[zs]
   simpa[Jm,hk] using x
theorem BK{δ:Type}{V:NP->World->LV->δ->Prop}{M N N':NP}{W W':World}{sz:Nat}{h:Ai}{l:List δ}{b:Nat}(hs:G5 V)(k:Av M W sz (V N W) h l)(g:∀j,j≠b->W'.heap[j]?=W.heap[j]?)(d:∀j,N j->j≠b)(f:∀j,M j->j≠b)(c:∀j,N j->N' j)(a:∀j,M j->N' j):Av N' W' sz (V N' W') h l:=
 k.same a (fun j e=>g j (f j e)) (fun _ _ i=>hs _ _ _ _ _ _ c (fun j e=>g j (d j e)) i)
section
variable{lo:Nat}{bl:List Nat}{N N':NP}{W:World}{c0 c1 c2:LV}{h0 h1 h2 h3 h4 h5 h6:Ai}{y:Am}{k:Nat}{new:ByteArray}
theorem CA(h:Bp 7 lo bl N W c0 c1 c2 h0 h1 h2 h3 h4 h5 h6 y){i j:Nat}(hi:i < 7)(c:j < 7)(b:i≠j){x:Nat}(d:x∈[ob h0.v,ob h1.v,ob h2.v,ob h3.v,ob h4.v,ob h5.v,ob h6.v][i]):x∉[ob h0.v,ob h1.v,ob h2.v,ob h3.v,ob h4.v,ob h5.v,ob h6.v][j]:=by
 have e:=qj.1 h.sep
 rcases Nat.lt_or_gt_of_ne b with a|a
 ·exact e i j hi c a x d
 ·exact fun f=>e j i c hi a x f d
theorem Uu(h:Bp 7 lo bl N W c0 c1 c2 h0 h1 h2 h3 h4 h5 h6 y)(D:∀j,N j->j∉bl)(q:∀j,N j->N' j)(F:∀j,lo<=j->j∈bl->N' j)(hk:k < y.lets.length)(z:new.size<=maxLen):
  ∃b o,h0.a=some ⟨b,o,none⟩∧b∈bl∧lo<=b∧h0.n=y.lets.length∧(∃nm,W.cell? ⟨b,o+k*7,none⟩=some (.string nm))∧∀W',JO W W' b (o+k*7) (.string new)->Dy N' W' (.string y.name::(c0++(c1++(c2++[h0.v,h1.v,h2.v,h3.v,h4.v,h5.v,h6.v])))) (BE 0 k new y):=by
 obtain ⟨b,o,cs,G,t,hl,E,B⟩:=(h.lets (by omega)).2.2 k hk
 have p:∀d∈[ob h0.v,ob h1.v,ob h2.v,ob h3.v,ob h4.v,ob h5.v,ob h6.v],∀x∈d,N' x:=fun d hd x H=>F x (h.rng d hd x H).1 (h.rng d hd x H).2
 have C:=h.rng (ob h0.v) (by simp) b t
 have m:∀j,N j->j≠b:=fun j l e=>D j l (e▸C.2)
 have A:BE 0 k new y={y with lets:=y.lets.mapIdx (Jm (fun d s=>{d with name:=s}) true k new)}:=by
  unfold BE
  have e1:((0:Nat)==0)=true:=rfl
  have e2:((0:Nat)==1)=false:=rfl
  have I:((0:Nat)==2)=false:=rfl
  have K:((0:Nat)==3)=false:=rfl
  rw[e1,e2,I,K]
  simp only[Ld]
 refine ⟨b,o,G,C.2,C.1,(h.lets (by omega)).1,?_,fun W' u=>?_⟩
 ·obtain ⟨nm,r,rfl⟩:∃nm r,cs=Value.string nm::r:=by
   revert B
   intro B
   obtain ⟨_,c,rfl,g⟩:=B;exact ⟨_,_,rfl⟩
  exact ⟨nm,E 0 _ rfl⟩
 ·have e0:∀ {e:Ex} {c:LV},AS N W e c->AS N' W' e c:=fun J=>J.same q (fun j l=>u.block j (m j l))
  rw[A]
  exact IV (y:={y with lets:=y.lets.mapIdx (Jm (fun d s=>{d with name:=s}) true k new)}) ⟨h.name,e0 h.e0,e0 h.e1,e0 h.e2,(Le (f:=fun (d:CF) s=>{d with name:=s}) Dw (h.lets (by omega)) G u m q (fun j l=>p _ (by simp) j l) (fun N w cs d hd=>by
  obtain ⟨_,c,rfl,g⟩:=hd
  exact ⟨_,_,rfl,z,c,rfl,g⟩)),(BK CZ (h.crops (by omega)) u.block m (fun j l e=>CA h (i:=0) (j:=1) (by omega) (by omega) (by omega) (show b∈ob h0.v from t) (show b∈ob h1.v from e▸l)) q (fun j l=>p _ (by simp) j l)),fun _=>(BK Ct (h.reaches (by omega)) u.block m (fun j l e=>CA h (i:=0) (j:=2) (by omega) (by omega) (by omega) (show b∈ob h0.v from t) (show b∈ob h2.v from e▸l)) q (fun j l=>p _ (by simp) j l)),fun _=>(BK D0 (h.farms (by omega)) u.block m (fun j l e=>CA h (i:=0) (j:=3) (by omega) (by omega) (by omega) (show b∈ob h0.v from t) (show b∈ob h3.v from e▸l)) q (fun j l=>p _ (by simp) j l)),fun _=>(BK Dx (h.rots (by omega)) u.block m (fun j l e=>CA h (i:=0) (j:=4) (by omega) (by omega) (by omega) (show b∈ob h0.v from t) (show b∈ob h4.v from e▸l)) q (fun j l=>p _ (by simp) j l)),fun _=>(BK Cu (h.rights (by omega)) u.block m (fun j l e=>CA h (i:=0) (j:=5) (by omega) (by omega) (by omega) (show b∈ob h0.v from t) (show b∈ob h5.v from e▸l)) q (fun j l=>p _ (by simp) j l)),fun _=>(BK D3 (h.duties (by omega)) u.block m (fun j l e=>CA h (i:=0) (j:=6) (by omega) (by omega) (by omega) (show b∈ob h0.v from t) (show b∈ob h6.v from e▸l)) q (fun j l=>p _ (by simp) j l))⟩
theorem SP(h:Bp 7 lo bl N W c0 c1 c2 h0 h1 h2 h3 h4 h5 h6 y)(D:∀j,N j->j∉bl)(q:∀j,N j->N' j)(F:∀j,lo<=j->j∈bl->N' j)(hk:k < y.crops.length)(z:new.size<=maxLen):
  ∃b o,h1.a=some ⟨b,o,none⟩∧b∈bl∧lo<=b∧h1.n=y.crops.length∧(∃nm,W.cell? ⟨b,o+k*7,none⟩=some (.string nm))∧∀W',JO W W' b (o+k*7) (.string new)->Dy N' W' (.string y.name::(c0++(c1++(c2++[h0.v,h1.v,h2.v,h3.v,h4.v,h5.v,h6.v])))) (BE 1 k new y):=by
 obtain ⟨b,o,cs,G,t,hl,E,B⟩:=(h.crops (by omega)).2.2 k hk
 have p:∀d∈[ob h0.v,ob h1.v,ob h2.v,ob h3.v,ob h4.v,ob h5.v,ob h6.v],∀x∈d,N' x:=fun d hd x H=>F x (h.rng d hd x H).1 (h.rng d hd x H).2
 have C:=h.rng (ob h1.v) (by simp) b t
 have m:∀j,N j->j≠b:=fun j l e=>D j l (e▸C.2)
 have A:BE 1 k new y={y with crops:=y.crops.mapIdx (Jm (fun d s=>{d with name:=s}) true k new)}:=by
  unfold BE
  have e1:((1:Nat)==0)=false:=rfl
  have e2:((1:Nat)==1)=true:=rfl
  have I:((1:Nat)==2)=false:=rfl
  have K:((1:Nat)==3)=false:=rfl
  rw[e1,e2,I,K]
  simp only[Ld]
 refine ⟨b,o,G,C.2,C.1,(h.crops (by omega)).1,?_,fun W' u=>?_⟩
 ·obtain ⟨nm,r,rfl⟩:∃nm r,cs=Value.string nm::r:=by
   revert B
   intro B
   obtain ⟨_,c,rfl,g⟩:=B;exact ⟨_,_,rfl⟩
  exact ⟨nm,E 0 _ rfl⟩
 ·have e0:∀ {e:Ex} {c:LV},AS N W e c->AS N' W' e c:=fun J=>J.same q (fun j l=>u.block j (m j l))
  rw[A]
  exact IV (y:={y with crops:=y.crops.mapIdx (Jm (fun d s=>{d with name:=s}) true k new)}) ⟨h.name,e0 h.e0,e0 h.e1,e0 h.e2,(BK Dw (h.lets (by omega)) u.block m (fun j l e=>CA h (i:=1) (j:=0) (by omega) (by omega) (by omega) (show b∈ob h1.v from t) (show b∈ob h0.v from e▸l)) q (fun j l=>p _ (by simp) j l)),(Le (f:=fun (d:Br) s=>{d with name:=s}) CZ (h.crops (by omega)) G u m q (fun j l=>p _ (by simp) j l) (fun N w cs d hd=>by
  obtain ⟨_,c,rfl,g⟩:=hd
  exact ⟨_,_,rfl,z,c,rfl,g⟩)),fun _=>(BK Ct (h.reaches (by omega)) u.block m (fun j l e=>CA h (i:=1) (j:=2) (by omega) (by omega) (by omega) (show b∈ob h1.v from t) (show b∈ob h2.v from e▸l)) q (fun j l=>p _ (by simp) j l)),fun _=>(BK D0 (h.farms (by omega)) u.block m (fun j l e=>CA h (i:=1) (j:=3) (by omega) (by omega) (by omega) (show b∈ob h1.v from t) (show b∈ob h3.v from e▸l)) q (fun j l=>p _ (by simp) j l)),fun _=>(BK Dx (h.rots (by omega)) u.block m (fun j l e=>CA h (i:=1) (j:=4) (by omega) (by omega) (by omega) (show b∈ob h1.v from t) (show b∈ob h4.v from e▸l)) q (fun j l=>p _ (by simp) j l)),fun _=>(BK Cu (h.rights (by omega)) u.block m (fun j l e=>CA h (i:=1) (j:=5) (by omega) (by omega) (by omega) (show b∈ob h1.v from t) (show b∈ob h5.v from e▸l)) q (fun j l=>p _ (by simp) j l)),fun _=>(BK D3 (h.duties (by omega)) u.block m (fun j l e=>CA h (i:=1) (j:=6) (by omega) (by omega) (by omega) (show b∈ob h1.v from t) (show b∈ob h6.v from e▸l)) q (fun j l=>p _ (by simp) j l))⟩
theorem PG(h:Bp 7 lo bl N W c0 c1 c2 h0 h1 h2 h3 h4 h5 h6 y)(E:∀j,N j->j∉bl)(t:∀j,N j->N' j)(G:∀j,lo<=j->j∈bl->N' j)(hk:k < y.reaches.length)(A:new.size<=maxLen):
  ∃b o,h2.a=some ⟨b,o,none⟩∧b∈bl∧lo<=b∧h2.n=y.reaches.length∧(∃nm,W.cell? ⟨b,o+k*51,none⟩=some (.string nm))∧∀W',JO W W' b (o+k*51) (.string new)->Dy N' W' (.string y.name::(c0++(c1++(c2++[h0.v,h1.v,h2.v,h3.v,h4.v,h5.v,h6.v])))) (BE 2 k new y):=by
 obtain ⟨b,o,cs,H,u,hl,F,C⟩:=(h.reaches (by omega)).2.2 k hk
 have p:∀d∈[ob h0.v,ob h1.v,ob h2.v,ob h3.v,ob h4.v,ob h5.v,ob h6.v],∀x∈d,N' x:=fun d hd x J=>G x (h.rng d hd x J).1 (h.rng d hd x J).2
 have D:=h.rng (ob h2.v) (by simp) b u
 have m:∀j,N j->j≠b:=fun j l e=>E j l (e▸D.2)
 have B:BE 2 k new y={y with reaches:=y.reaches.mapIdx (Jm (fun d s=>{d with name:=s}) true k new)}:=by
  unfold BE
  have e1:((2:Nat)==0)=false:=rfl
  have e2:((2:Nat)==1)=false:=rfl
  have O:((2:Nat)==2)=true:=rfl
  have Q:((2:Nat)==3)=false:=rfl
  rw[e1,e2,O,Q]
  simp only[Ld]
 refine ⟨b,o,H,D.2,D.1,(h.reaches (by omega)).1,?_,fun W' z=>?_⟩
 ·obtain ⟨nm,r,rfl⟩:∃nm r,cs=Value.string nm::r:=by
   revert C
   intro C
   obtain ⟨_,q,c0,c1,c2,L,c4,M,I,K,rfl,g⟩:=C;exact ⟨_,_,rfl⟩
  exact ⟨nm,F 0 _ rfl⟩
 ·have e0:∀ {e:Ex} {c:LV},AS N W e c->AS N' W' e c:=fun P=>P.same t (fun j l=>z.block j (m j l))
  rw[B]
  exact IV (y:={y with reaches:=y.reaches.mapIdx (Jm (fun d s=>{d with name:=s}) true k new)}) ⟨h.name,e0 h.e0,e0 h.e1,e0 h.e2,(BK Dw (h.lets (by omega)) z.block m (fun j l e=>CA h (i:=2) (j:=0) (by omega) (by omega) (by omega) (show b∈ob h2.v from u) (show b∈ob h0.v from e▸l)) t (fun j l=>p _ (by simp) j l)),(BK CZ (h.crops (by omega)) z.block m (fun j l e=>CA h (i:=2) (j:=1) (by omega) (by omega) (by omega) (show b∈ob h2.v from u) (show b∈ob h1.v from e▸l)) t (fun j l=>p _ (by simp) j l)),fun _=>(Le (f:=fun (d:At) s=>{d with name:=s}) Ct (h.reaches (by omega)) H z m t (fun j l=>p _ (by simp) j l) (fun N w cs d hd=>by
  obtain ⟨_,q,c0,c1,c2,L,c4,M,I,K,rfl,g⟩:=hd
  exact ⟨_,_,rfl,A,q,c0,c1,c2,L,c4,M,I,K,rfl,g⟩)),fun _=>(BK D0 (h.farms (by omega)) z.block m (fun j l e=>CA h (i:=2) (j:=3) (by omega) (by omega) (by omega) (show b∈ob h2.v from u) (show b∈ob h3.v from e▸l)) t (fun j l=>p _ (by simp) j l)),fun _=>(BK Dx (h.rots (by omega)) z.block m (fun j l e=>CA h (i:=2) (j:=4) (by omega) (by omega) (by omega) (show b∈ob h2.v from u) (show b∈ob h4.v from e▸l)) t (fun j l=>p _ (by simp) j l)),fun _=>(BK Cu (h.rights (by omega)) z.block m (fun j l e=>CA h (i:=2) (j:=5) (by omega) (by omega) (by omega) (show b∈ob h2.v from u) (show b∈ob h5.v from e▸l)) t (fun j l=>p _ (by simp) j l)),fun _=>(BK D3 (h.duties (by omega)) z.block m (fun j l e=>CA h (i:=2) (j:=6) (by omega) (by omega) (by omega) (show b∈ob h2.v from u) (show b∈ob h6.v from e▸l)) t (fun j l=>p _ (by simp) j l))⟩
theorem SQ(h:Bp 7 lo bl N W c0 c1 c2 h0 h1 h2 h3 h4 h5 h6 y)(D:∀j,N j->j∉bl)(q:∀j,N j->N' j)(F:∀j,lo<=j->j∈bl->N' j)(hk:k < y.farms.length)(z:new.size<=maxLen):
  ∃b o,h3.a=some ⟨b,o,none⟩∧b∈bl∧lo<=b∧h3.n=y.farms.length∧(∃nm,W.cell? ⟨b,o+k*12,none⟩=some (.string nm))∧∀W',JO W W' b (o+k*12) (.string new)->Dy N' W' (.string y.name::(c0++(c1++(c2++[h0.v,h1.v,h2.v,h3.v,h4.v,h5.v,h6.v])))) (BE 3 k new y):=by
 obtain ⟨b,o,cs,H,t,hl,E,B⟩:=(h.farms (by omega)).2.2 k hk
 have p:∀d∈[ob h0.v,ob h1.v,ob h2.v,ob h3.v,ob h4.v,ob h5.v,ob h6.v],∀x∈d,N' x:=fun d hd x J=>F x (h.rng d hd x J).1 (h.rng d hd x J).2
 have C:=h.rng (ob h3.v) (by simp) b t
 have m:∀j,N j->j≠b:=fun j l e=>D j l (e▸C.2)
 have A:BE 3 k new y={y with farms:=y.farms.mapIdx (Jm (fun d s=>{d with name:=s}) true k new)}:=by
  unfold BE
  have e1:((3:Nat)==0)=false:=rfl
  have e2:((3:Nat)==1)=false:=rfl
  have K:((3:Nat)==2)=false:=rfl
  have M:((3:Nat)==3)=true:=rfl
  rw[e1,e2,K,M]
  simp only[Ld]
 refine ⟨b,o,H,C.2,C.1,(h.farms (by omega)).1,?_,fun W' u=>?_⟩
 ·obtain ⟨nm,r,rfl⟩:∃nm r,cs=Value.string nm::r:=by
   revert B
   intro B
   obtain ⟨_,I,G,c,rfl,g⟩:=B;exact ⟨_,_,rfl⟩
  exact ⟨nm,E 0 _ rfl⟩
 ·have e0:∀ {e:Ex} {c:LV},AS N W e c->AS N' W' e c:=fun L=>L.same q (fun j l=>u.block j (m j l))
  rw[A]
  exact IV (y:={y with farms:=y.farms.mapIdx (Jm (fun d s=>{d with name:=s}) true k new)}) ⟨h.name,e0 h.e0,e0 h.e1,e0 h.e2,(BK Dw (h.lets (by omega)) u.block m (fun j l e=>CA h (i:=3) (j:=0) (by omega) (by omega) (by omega) (show b∈ob h3.v from t) (show b∈ob h0.v from e▸l)) q (fun j l=>p _ (by simp) j l)),(BK CZ (h.crops (by omega)) u.block m (fun j l e=>CA h (i:=3) (j:=1) (by omega) (by omega) (by omega) (show b∈ob h3.v from t) (show b∈ob h1.v from e▸l)) q (fun j l=>p _ (by simp) j l)),fun _=>(BK Ct (h.reaches (by omega)) u.block m (fun j l e=>CA h (i:=3) (j:=2) (by omega) (by omega) (by omega) (show b∈ob h3.v from t) (show b∈ob h2.v from e▸l)) q (fun j l=>p _ (by simp) j l)),fun _=>(Le (f:=fun (d:Bd) s=>{d with name:=s}) D0 (h.farms (by omega)) H u m q (fun j l=>p _ (by simp) j l) (fun N w cs d hd=>by
  obtain ⟨_,I,G,c,rfl,g⟩:=hd
  exact ⟨_,_,rfl,z,I,G,c,rfl,g⟩)),fun _=>(BK Dx (h.rots (by omega)) u.block m (fun j l e=>CA h (i:=3) (j:=4) (by omega) (by omega) (by omega) (show b∈ob h3.v from t) (show b∈ob h4.v from e▸l)) q (fun j l=>p _ (by simp) j l)),fun _=>(BK Cu (h.rights (by omega)) u.block m (fun j l e=>CA h (i:=3) (j:=5) (by omega) (by omega) (by omega) (show b∈ob h3.v from t) (show b∈ob h5.v from e▸l)) q (fun j l=>p _ (by simp) j l)),fun _=>(BK D3 (h.duties (by omega)) u.block m (fun j l e=>CA h (i:=3) (j:=6) (by omega) (by omega) (by omega) (show b∈ob h3.v from t) (show b∈ob h6.v from e▸l)) q (fun j l=>p _ (by simp) j l))⟩
end
theorem VH:Fw Ni:=⟨by decide,by decide,by decide,by decide,by decide,by decide,by decide,fun d hd=>by simp[Ni] at hd⟩
theorem UI{x:Am}(h:Fw x)(f:Int->Ex->Ex)(g:Int->Rf->Rf):Fw (x.mp f g):=by
 refine ⟨?_,?_,?_,?_,?_,?_,?_,?_⟩
 ·simpa[Am.mp] using h.lets
 ·simpa[Am.mp] using h.crops
 ·simpa[Am.mp] using h.reaches
 ·simpa[Am.mp] using h.farms
 ·simpa[Am.mp] using h.rots
 ·simpa[Am.mp] using h.rights
 ·simpa[Am.mp] using h.duties
 ·intro d hd
  simp only[Am.mp] at hd
  obtain ⟨i,hi,rfl⟩:=xM hd
  rw[zs]
  have:=h.turns _ (yz (l:=x.rots) (n:=i) (by simpa using hi))
  simpa[B6.mp] using this
def PO(x:Am):Am:=if Ay x=0 then Ab x else Ni
theorem WH{x:Am}(h:Fw x):Fw (PO x):=by
 unfold PO
 split
 ·exact UI h _ _
 ·exact VH
def Tf(w:World)(b:Nat):Prop:=b < w.heap.size
theorem Dy.wide{N N':NP}{w w':World}{cs:LV}{y:Am}(h:Dy N w cs y)(a:∀b,N b->N' b)(hb:∀b,N b->w'.heap[b]?=w.heap[b]?):Dy N' w' cs y:=by
 obtain ⟨L,c⟩:=h
 exact ⟨L,c.same a hb⟩
theorem PQ{w w':World}{x:Am}{e:Ending}(h:FJ w x e w'):Below w.heap.size w w'∧∃ks:LV,e=.returned (.tuple #[.agg ks.toArray,.int .i64 (Ay x)])∧Dy (Tf w') w' ks (PO x):=by
 obtain ⟨hb,⟨h1,h2⟩|⟨h1,ks,h2,L,N,h3,h4,h5⟩⟩:=h
 ·refine ⟨hb,A5,h2,?_⟩
  unfold PO;rw[yu h1];exact Ug _ _
 ·refine ⟨hb,ks,by rw[h1];exact h2,?_⟩
  unfold PO;rw[yw h1]
  exact ⟨L,h4.same (fun b hb=>(h5 b hb).2) (fun _ _=>rfl)⟩
theorem SY{w:World}{ks ms:LV}{x:Am}(h1:Dy (Tf w) w ks x)(h2:Dy (Tf w) w ms x)(a:Fw x):Calls Try.prog 13 #[.agg ks.toArray,.agg ms.toArray] w fun e w'=>e=.returned (.bool true)∧Below w.heap.size w w':=by
 obtain ⟨L,b⟩:=h1
 obtain ⟨M,c⟩:=h2
 have h:=Uy b c (fun _ h=>h) a a
 rw[(SU x x).2 ⟨rfl,rfl⟩] at h
 exact h
set_option linter.unusedSimpArgs false
def Of(u:Nat->Value):Array Value:=((List.range 122).map u).toArray
theorem Og(u:Nat->Value):Of u=#[u 0,u 1,u 2,u 3,u 4,u 5,u 6,u 7,u 8,u 9,u 10,u 11,u 12,u 13,u 14,u 15,u 16,u 17,u 18,u 19,u 20,u 21,u 22,u 23,u 24,u 25,u 26,u 27,u 28,u 29,u 30,u 31,u 32,u 33,u 34,u 35,u 36,u 37,u 38,u 39,u 40,u 41,u 42,u 43,u 44,u 45,u 46,u 47,u 48,u 49,u 50,u 51,u 52,u 53,u 54,u 55,u 56,u 57,u 58,u 59,u 60,u 61,u 62,u 63,u 64,u 65,u 66,u 67,u 68,u 69,u 70,u 71,u 72,u 73,u 74,u 75,u 76,u 77,u 78,u 79,u 80,u 81,u 82,u 83,u 84,u 85,u 86,u 87,u 88,u 89,u 90,u 91,u 92,u 93,u 94,u 95,u 96,u 97,u 98,u 99,u 100,u 101,u 102,u 103,u 104,u 105,u 106,u 107,u 108,u 109,u 110,u 111,u 112,u 113,u 114,u 115,u 116,u 117,u 118,u 119,u 120,u 121]:=by kernel_rfl
theorem Dt{P:Array Value->Prop}{l:Array Value}(hs:l.size=122)(h:P (Of fun i=>l.getD i undef)):P l:=by
 have e:(Of fun i=>l.getD i undef)=l:=by
  refine Array.ext (by simp[Of,hs]) fun i h1 h2=>?_
  simp[Of,yH,h2]
 rwa [e] at h
def XI(c:Nat):Nat:=if c < 2 then 7 else if c=2 then 51 else 12
def Iw(c:Nat)(y:Am):Nat:=if c=0 then y.lets.length else if c=1 then y.crops.length else if c=2 then y.reaches.length else y.farms.length
def Rg(s0 s1 hi j:Nat):Prop:=(j < s0∨s1<=j)∧j < hi
def Pk(s0 s1 hi:Nat)(W:World)(ps:LV)(y:Am):Prop:=
 ∃(lo:Nat) (bl:List Nat) (N:NP) (c0 c1 c2:LV) (h0 h1 h2 h3 h4 h5 h6:Ai),ps=.string y.name::(c0++(c1++(c2++[h0.v,h1.v,h2.v,h3.v,h4.v,h5.v,h6.v])))∧Bp 7 lo bl N W c0 c1 c2 h0 h1 h2 h3 h4 h5 h6 y∧(∀j,N j->j∉bl∧Rg s0 s1 hi j)∧∀j,lo<=j->j∈bl->s1<=j∧j < hi
theorem Bp.same{k lo:Nat}{bl:List Nat}{N:NP}{W W':World}{c0 c1 c2:LV}{h0 h1 h2 h3 h4 h5 h6:Ai}{y:Am}(h:Bp k lo bl N W c0 c1 c2 h0 h1 h2 h3 h4 h5 h6 y)(hN:∀j,N j->W'.heap[j]?=W.heap[j]?)(hb:∀x,lo<=x->x∈bl->W'.heap[x]?=W.heap[x]?):Bp k lo bl N W' c0 c1 c2 h0 h1 h2 h3 h4 h5 h6 y:=by
 have q:∀d∈[ob h0.v,ob h1.v,ob h2.v,ob h3.v,ob h4.v,ob h5.v,ob h6.v],∀x∈d,W'.heap[x]?=W.heap[x]?:=fun d hd x a=>hb x (h.rng d hd x a).1 (h.rng d hd x a).2
 have s:∀ {δ:Type} {V:NP->World->LV->δ->Prop} {hd:Ai} {sz:Nat} {ds:List δ},G5 V->ob hd.v∈[ob h0.v,ob h1.v,ob h2.v,ob h3.v,ob h4.v,ob h5.v,ob h6.v]->Av (T7 hd) W sz (V N W) hd ds->Av (T7 hd) W' sz (V N W') hd ds:=fun hs f g=>g.same (fun _ h=>h) (fun b hb=>q _ f b hb) (fun _ _ c=>hs _ _ _ _ _ _ (fun _ h=>h) hN c)
 exact ⟨h.name,h.e0.same (fun _ h=>h) hN,h.e1.same (fun _ h=>h) hN,h.e2.same (fun _ h=>h) hN,fun k=>s Dw (by simp) (h.lets k),fun k=>s CZ (by simp) (h.crops k),fun k=>s Ct (by simp) (h.reaches k),fun k=>s D0 (by simp) (h.farms k),fun k=>s Dx (by simp) (h.rots k),fun k=>s Cu (by simp) (h.rights k),fun k=>s D3 (by simp) (h.duties k),h.sep,h.rng,fun d hd x a=>by
  obtain ⟨cs,t,e⟩:=h.raw d hd x a
  exact ⟨cs,t,(q d hd x a).trans e⟩⟩
section
variable{s0 s1 hi:Nat}{W W':World}{ps:LV}{y:Am}
theorem Pk.to(h:Pk s0 s1 hi W ps y)(_:s0<=s1)(hb:∀j,Rg s0 s1 hi j->W'.heap[j]?=W.heap[j]?):Pk s0 s1 hi W' ps y:=by
 obtain ⟨lo,bl,N,c0,c1,c2,h0,h1,h2,h3,h4,h5,h6,e,g,hN,hl⟩:=h
 exact ⟨lo,bl,N,c0,c1,c2,h0,h1,h2,h3,h4,h5,h6,e,g.same (fun j a=>hb j (hN j a).2) (fun j h1 h2=>hb j ⟨.inr (hl j h1 h2).1,(hl j h1 h2).2⟩),hN,hl⟩
theorem Pk.res(h:Pk s0 s1 hi W ps y):Dy (Rg s0 s1 hi) W ps y:=by
 obtain ⟨lo,bl,N,c0,c1,c2,h0,h1,h2,h3,h4,h5,h6,rfl,g,hN,hl⟩:=h
 exact g.res (fun j a=>(hN j a).2) (fun j h1 h2=>⟨.inr (hl j h1 h2).1,(hl j h1 h2).2⟩)
theorem Bp.narrow{k lo:Nat}{bl:List Nat}{N:NP}{W:World}{c0 c1 c2:LV}{h0 h1 h2 h3 h4 h5 h6:Ai}{y:Am}(h:Bp k lo bl N W c0 c1 c2 h0 h1 h2 h3 h4 h5 h6 y):Bp k lo (bl.filter fun j=>decide (j < W.heap.size)) N W c0 c1 c2 h0 h1 h2 h3 h4 h5 h6 y:=
 ⟨h.name,h.e0,h.e1,h.e2,h.lets,h.crops,h.reaches,h.farms,h.rots,h.rights,h.duties,h.sep,fun d hd x a=>⟨(h.rng d hd x a).1,by
  obtain ⟨cs,t,e⟩:=h.raw d hd x a
  exact qi.2 ⟨(h.rng d hd x a).2,by simpa using (ye.1 e).1⟩⟩,h.raw⟩
theorem Xn{F G:NP}{J:Bool->World->Prop}{b:Bool}{w w':World}{e:Ending}(h:US F G J b y w e w')(c:∀j,s0<=j->j < w.heap.size->G j)(_:s0<=w.heap.size):∃ps:LV,e=.returned (.agg ps.toArray)∧Pk s0 w.heap.size w'.heap.size w' ps y∧J b w'∧BX F w.heap.size w w':=by
 obtain ⟨bl,c0,c1,c2,h0,h1,h2,h3,h4,h5,h6,rfl,g,a,hb⟩:=h
 refine ⟨_,rfl,⟨w.heap.size+3,_,GF (FL G bl) w',c0,c1,c2,h0,h1,h2,h3,h4,h5,h6,rfl,g.narrow,fun j a=>⟨fun h=>a.1 (.inr (qi.1 h).1),?_,a.2⟩,?_⟩,a,hb⟩
 ·by_cases h1:j < s0
  ·exact .inl h1
  ·by_cases h2:j < w.heap.size
   ·exact absurd (.inl (c j (by omega) h2)) a.1
   ·exact .inr (by omega)
 ·intro j h1 h2
  have:=(qi.1 h2).2
  simp only[yW] at this
  exact ⟨by omega,this⟩
theorem Pk.ren(h:Pk s0 s1 hi W ps y){c k:Nat}{new:ByteArray}(hc:c < 4)(hk:k < Iw c y)(l:new.size<=maxLen):
  ∃b o n cap,ps[19+c]?=some (.slice (some ⟨b,o,none⟩) n cap)∧n=Iw c y∧s1<=b∧b < hi∧Wm W b∧(∃nm,W.cell? ⟨b,o+k*XI c,none⟩=some (.string nm))∧∀W',JO W W' b (o+k*XI c) (.string new)->Dy (Rg s0 s1 hi) W' ps (BE c k new y):=by
 obtain ⟨lo,bl,N,c0,c1,c2,h0,h1,h2,h3,h4,h5,h6,rfl,g,hN,hl⟩:=h
 have q:∀j,N j->j∉bl:=fun j x=>(hN j x).1
 have s:∀j,N j->Rg s0 s1 hi j:=fun j x=>(hN j x).2
 have t:∀j,lo<=j->j∈bl->Rg s0 s1 hi j:=fun j a b=>⟨.inr (hl j a b).1,(hl j a b).2⟩
 have r:∀(j:Nat) {v:Value},[h0.v,h1.v,h2.v,h3.v,h4.v,h5.v,h6.v][j]?=some v->(Value.string y.name::(c0++(c1++(c2++[h0.v,h1.v,h2.v,h3.v,h4.v,h5.v,h6.v]))))[19+j]?=some v:=fun j v w=>by
  rw[show 19+j=(((j+6)+6)+6)+1 by omega,List.getElem?_cons_succ,yL (by rw[g.e0.len];omega),g.e0.len,yL (by rw[g.e1.len];omega),g.e1.len,yL (by rw[g.e2.len];omega),g.e2.len]
  simpa using w
 have m:∀ {hd:Ai} {b o:Nat},ob hd.v∈[ob h0.v,ob h1.v,ob h2.v,ob h3.v,ob h4.v,ob h5.v,ob h6.v]->hd.a=some (aV b o)->Wm W b:=fun {hd b o} p f=>g.raw _ p b (by unfold Ai.v;rw[f];simp[ob,Value.ownBlock])
 have w:∀ {hd:Ai} {b o:Nat},hd.a=some (aV b o)->hd.v=.slice (some (aV b o)) hd.n hd.c:=fun f=>by unfold Ai.v;rw[f]
 obtain rfl|rfl|rfl|rfl:c=0∨c=1∨c=2∨c=3:=by omega
 ·obtain ⟨b,o,f,p,d,u,i,e⟩:=Uu g q s t hk l
  exact ⟨b,o,h0.n,h0.c,r 0 (by rw[<-w f];rfl),u,(hl b d p).1,(hl b d p).2,m (by simp) f,i,e⟩
 ·obtain ⟨b,o,f,p,d,u,i,e⟩:=SP g q s t hk l
  exact ⟨b,o,h1.n,h1.c,r 1 (by rw[<-w f];rfl),u,(hl b d p).1,(hl b d p).2,m (by simp) f,i,e⟩
 ·obtain ⟨b,o,f,p,d,u,i,e⟩:=PG g q s t hk l
  exact ⟨b,o,h2.n,h2.c,r 2 (by rw[<-w f];rfl),u,(hl b d p).1,(hl b d p).2,m (by simp) f,i,e⟩
 ·obtain ⟨b,o,f,p,d,u,i,e⟩:=SQ g q s t hk l
  exact ⟨b,o,h3.n,h3.c,r 3 (by rw[<-w f];rfl),u,(hl b d p).1,(hl b d p).2,m (by simp) f,i,e⟩
end
set_option linter.unusedSimpArgs false
theorem BW{w:World}{b q:Nat}{u v:Value}(d:Wm w b)(hc:w.cell? ⟨b,q,none⟩=some u):JO w (w.setCell ⟨b,q,none⟩ v).drew b q v:=by
 obtain ⟨cs,t,e⟩:=d
 have hs:=z7 w b q _ _ v e
 have c:q < cs.size:=by
  simp only[World.cell?,e] at hc
  exact (ye.1 hc).1
 refine ⟨rfl,rfl,rfl,by show (w.setCell (aV b q) v).heap.size=_;simp,fun j a=>yT _ _ _ _ (fun h=>a h),fun p f=>?_,?_⟩
 ·show (w.setCell (aV b q) v).cell? _=_
  simp only[World.cell?,hs,e]
  rw[Array.getElem?_setIfInBounds_ne (fun h=>f h.symm)]
 ·show (w.setCell (aV b q) v).cell? _=_
  simp only[World.cell?,hs]
  rw[Array.getElem?_setIfInBounds_self_of_lt c]
  rfl
theorem UJ{W W':World}(h:GV W)(hb:W'.heap[0]?=W.heap[0]?)(hs:W.heap.size<=W'.heap.size):GV W':=by
 obtain ⟨h1,m,h2⟩:=h
 refine ⟨by omega,m,?_⟩
 simp only[World.cell?,hb] at h2 ⊢
 exact h2
structure XJ (w:World) (c k s0 s1 hi1 s2 hi2 Bc Bk B15 B16:Nat) (ps qs:List Value) (yo yn:Am) (W:World):Prop where
 c4:c < 4
 ko:k < Iw c yo
 kn:k < Iw c yn
 lo:Iw c yo<=140737488355328
 ln:Iw c yn<=140737488355328
 rs:s0<=s1∧s1<=hi1∧hi1<=s2∧s2<=hi2
 r5:hi2<=W.heap.size
 r0:w.heap.size<=s0
 bc:s0<=Bc∧Bc < s1
 bk:s0<=Bk∧Bk < s1
 b15:B15 < W.heap.size∧¬(s1<=B15∧B15 < hi1)∧¬(s2<=B15∧B15 < hi2)
 b16:B16 < W.heap.size∧¬(s1<=B16∧B16 < hi1)∧¬(s2<=B16∧B16 < hi2)
 cb:W.heap[Bc]?=some (.cells #[.int .i64 (c:Int)] 3 (0,0))
 kb:W.heap[Bk]?=some (.cells #[.int .i64 (k:Int)] 3 (0,0))
 x15:W.heap[B15]?=some (.cells ps.toArray 35 (0,0))
 x16:W.heap[B16]?=some (.cells qs.toArray 35 (0,0))
 po:Pk s0 s1 hi1 W ps yo
 pn:Pk s0 s2 hi2 W qs yn
 gv:GV W
 bl:Below w.heap.size w W
 gw:0 < w.heap.size
 wr:Ay (BE c k FT yo)=0
 rv:Ab (BE c k FT yo)=BE c k FT yn
 slim:Ih (BE c k FT yo)
 deep:∀e∈AN (BE c k FT yo),AJ e.1<=1000000
 fw:Fw (BE c k FT yn)
structure UR (Bc Bk B15 B16:Nat) (u:Nat->Value):Prop where
 u9:u 9=.pointer (some ⟨Bc,0,none⟩)
 u11:u 11=.pointer (some ⟨Bk,0,none⟩)
 u15:u 15=.pointer (some ⟨B15,0,none⟩)
 u16:u 16=.pointer (some ⟨B16,0,none⟩)
structure RI (W1:World) (A s0 s1 hi1 s2 hi2 c k B15 B16:Nat) (ps qs:List Value) (yo yn:Am) (i:Nat) (wr:World):Prop where
 arr:wr.heap[A]?=some (.cells #[.pointer (some ⟨B15,0,none⟩),.pointer (some ⟨B16,0,none⟩)] 52 (0,0))
 low:∀j,¬(s1<=j∧j < hi1)->¬(s2<=j∧j < hi2)->j < W1.heap.size->wr.heap[j]?=W1.heap[j]?
 os:wr.os=W1.os
 tape:wr.tape=W1.tape
 output:wr.output=W1.output
 size:wr.heap.size=W1.heap.size
 o0:i=0->Pk s0 s1 hi1 wr ps yo
 o1:0 < i->Dy (Rg s0 s1 hi1) wr ps (BE c k FT yo)
 n0:i<=1->Pk s0 s2 hi2 wr qs yn
 n1:1 < i->Dy (Rg s0 s2 hi2) wr qs (BE c k FT yn)
section
variable{W1 wr W':World}{A s0 s1 hi1 s2 hi2 c k B15 B16 b q:Nat}{ps qs:LV}{yo yn:Am}{v:Value}
theorem RI.XR(h:RI W1 A s0 s1 hi1 s2 hi2 c k B15 B16 ps qs yo yn 0 wr)(f:A≠b)(rs:s0<=s1∧s1<=hi1∧hi1<=s2∧s2<=hi2)(h1:s1<=b)(h2:b < hi1)(hc:JO wr W' b q v)(g:Dy (Rg s0 s1 hi1) W' ps (BE c k FT yo)):RI W1 A s0 s1 hi1 s2 hi2 c k B15 B16 ps qs yo yn 1 W':=
 ⟨(hc.block A f).trans h.arr,fun j a b' d=>(hc.block j (fun e=>a (e▸⟨h1,h2⟩))).trans (h.low j a b' d),hc.os.trans h.os,hc.tape.trans h.tape,hc.output.trans h.output,hc.size.trans h.size,fun e=>absurd e (by omega),fun _=>g,fun _=>(h.n0 (by omega)).to (by omega) (fun j d=>hc.block j (fun e=>by have:=d.1;omega)),fun e=>absurd e (by omega)⟩
theorem RI.XS(h:RI W1 A s0 s1 hi1 s2 hi2 c k B15 B16 ps qs yo yn 1 wr)(f:A≠b)(rs:s0<=s1∧s1<=hi1∧hi1<=s2∧s2<=hi2)(h1:s2<=b)(h2:b < hi2)(hc:JO wr W' b q v)(g:Dy (Rg s0 s2 hi2) W' qs (BE c k FT yn)):RI W1 A s0 s1 hi1 s2 hi2 c k B15 B16 ps qs yo yn 2 W':=
 ⟨(hc.block A f).trans h.arr,fun j a b' d=>(hc.block j (fun e=>b' (e▸⟨h1,h2⟩))).trans (h.low j a b' d),hc.os.trans h.os,hc.tape.trans h.tape,hc.output.trans h.output,hc.size.trans h.size,fun e=>absurd e (by omega),fun _=>(h.o1 (by omega)).wide (fun _ h=>h) (fun j d=>hc.block j (fun e=>by have:=d.2;omega)),fun e=>absurd e (by omega),fun _=>g⟩
end
theorem FE{w W:World}{c k s0 s1 hi1 s2 hi2 Bc Bk B15 B16:Nat}{ps qs:LV}{yo yn:Am}{u:Nat->Value}(hE:XJ w c k s0 s1 hi1 s2 hi2 Bc Bk B15 B16 ps qs yo yn W)(hu:UR Bc Bk B15 B16 u):
  Code.wp Try.prog (CJ 11 (Try.f7.body.getD .skip)) (bodyPost Try.prog Try.f7 fun e w'=>e=.returned (.bool true)∧Below w.heap.size w w') {tmps:=Of u,defers:=[]} W:=by
 obtain ⟨c0,b8⟩:∃z,z=c:=⟨_,rfl⟩
 rw[Og,hu.u9,hu.u11,hu.u15,hu.u16]
 have d:=yb hE
 clear hE hu
 refine Af fun K hK=>?_
 go_wp2
 obtain ⟨A,hA⟩:∃a,a=W.heap.size:=⟨_,rfl⟩
 obtain ⟨W1,H⟩:∃z:World,z=W.alloc (.cells #[pV B15 0,pV B16 0] 52):=⟨_,rfl⟩
 rw[<-H,<-hA]
 have J:Hid (W1.heap.size=W.heap.size+1):=yb (by rw[H];simp)
 have I:Hid (∀j,j < W.heap.size->W1.heap[j]?=W.heap[j]?):=yb (fun j L=>by rw[H,yF _ _ _ L])
 have ap:Hid (W1.heap[A]?=some (.cells #[pV B15 0,pV B16 0] 52 (0,0))):=yb (by rw[H,hA];exact World.alloc_heap_new _ _)
 have D:Hid (A=W.heap.size):=yb hA
 have ar:Hid (W1.os=W.os∧W1.tape=W.tape∧W1.output=W.output):=yb (by rw[H];exact ⟨rfl,rfl,rfl⟩)
 clear H hA
 have Y:Hid (RI W1 A s0 s1 hi1 s2 hi2 c k B15 B16 ps qs yo yn 0 W1):=yb (by
  have hr:=d.o.rs
  have h5:=d.o.r5
  exact ⟨ap.o,fun _ _ _ _=>rfl,rfl,rfl,rfl,rfl,fun _=>d.o.po.to hr.1 (fun j L=>I.o j (by have:=L.2;omega)),fun h=>absurd h (by omega),fun _=>d.o.pn.to (by omega) (fun j L=>I.o j (by have:=L.2;omega)),fun h=>absurd h (by omega)⟩)
 go_loopw [68] (fun iv wr=>∃i:Nat,iv=iV i∧i<=2∧Hid (RI W1 A s0 s1 hi1 s2 hi2 c k B15 B16 ps qs yo yn i wr)) (fun iv _=>2 - (intOf iv).toNat)
 case atStart=>exact ⟨0,rfl,by omega,Y⟩
 case round=>
  clear Y
  obtain ⟨i,rfl,hi,HR⟩:=hrel
  have s:=HR.o
  have V:∀ {j:Nat} {o:Obj},s0<=j->j < s1->W.heap[j]?=some o->wr.heap[j]?=some o:=fun {j o} h1 h2 h3=>by
   have hr:=d.o.rs
   have h5:=d.o.r5
   exact (s.low j (by omega) (by omega) (by rw[J.o];omega)).trans ((I.o j (by omega)).trans h3)
  have b4:wr.cell? (aV Bk 0)=some (iV (k:Int)):=by simp[World.cell?,V d.o.bk.1 d.o.bk.2 d.o.kb]
  have l:wr.cell? (aV Bc 0)=some (iV (c:Int)):=by simp[World.cell?,V d.o.bc.1 d.o.bc.2 d.o.cb]
  have a7:wr.cell? (aV A 0)=some (pV B15 0):=by simp[World.cell?,s.arr]
  have ag:wr.cell? (aV A 1)=some (pV B16 0):=by simp[World.cell?,s.arr]
  clear HR V
  obtain rfl|rfl|rfl:i=0∨i=1∨i=2:=by omega
  ·have B:=d.o.c4
   obtain rfl|rfl|rfl|rfl:c=0∨c=1∨c=2∨c=3:=by omega
   ·have F:wr.cell? (aV Bc 0)=some (iV 0):=by simpa using l
    clear l B
    obtain ⟨b,o,n,cap,q,y,m,r,f,⟨nm,g⟩,p⟩:=(s.o0 rfl).ren d.o.c4 d.o.ko (new:=FT) (by decide)
    have E:(k:Int) < (n:Int):=by have:=d.o.ko;omega
    have x:n<=140737488355328:=by rw[y];exact d.o.lo
    have U:wr.cell? (aV B15 19)=some (.slice (some (aV b o)) n cap):=by
     have e:=d.o.x15
     have e2:=(s.low B15 d.o.b15.2.1 d.o.b15.2.2 (by rw[J.o];have:=d.o.b15.1;omega)).trans ((I.o B15 d.o.b15.1).trans e)
     simp only[World.cell?,e2]
     simpa using q
    have G:wr.frozen? (aV b (o+k*7))=false:=by
     obtain ⟨cs,t,e⟩:=f
     simp[World.frozen?,e]
    have v:Hid (RI W1 A s0 s1 hi1 s2 hi2 0 k B15 B16 ps qs yo yn 1 ((wr.setCell (aV b (o+k*7)) (.string {data:=#[122,122,95,57]})).drew)):=yb (s.XR (by have:=d.o.rs;have:=d.o.r5;have:=D.o;omega) d.o.rs m r (BW f g) (p _ (BW f g)))
    change wr.cell? (aV b (o+k*7))=some (.string nm) at g
    clear q y m r f p s
    go_wp2_with fail
    go_region
    go_wp2
    exact ⟨⟨1,by simp,by omega,v⟩,by simp[intOf]⟩
   ·have F:wr.cell? (aV Bc 0)=some (iV 1):=by simpa using l
    clear l B
    obtain ⟨b,o,n,cap,q,y,m,r,f,⟨nm,g⟩,p⟩:=(s.o0 rfl).ren d.o.c4 d.o.ko (new:=FT) (by decide)
    have E:(k:Int) < (n:Int):=by have:=d.o.ko;omega
    have x:n<=140737488355328:=by rw[y];exact d.o.lo
    have U:wr.cell? (aV B15 20)=some (.slice (some (aV b o)) n cap):=by
     have e:=d.o.x15
     have e2:=(s.low B15 d.o.b15.2.1 d.o.b15.2.2 (by rw[J.o];have:=d.o.b15.1;omega)).trans ((I.o B15 d.o.b15.1).trans e)
     simp only[World.cell?,e2]
     simpa using q
    have G:wr.frozen? (aV b (o+k*7))=false:=by
     obtain ⟨cs,t,e⟩:=f
     simp[World.frozen?,e]
    have v:Hid (RI W1 A s0 s1 hi1 s2 hi2 1 k B15 B16 ps qs yo yn 1 ((wr.setCell (aV b (o+k*7)) (.string {data:=#[122,122,95,57]})).drew)):=yb (s.XR (by have:=d.o.rs;have:=d.o.r5;have:=D.o;omega) d.o.rs m r (BW f g) (p _ (BW f g)))
    change wr.cell? (aV b (o+k*7))=some (.string nm) at g
    clear q y m r f p s
    go_wp2_with fail
    go_region
    go_wp2
    exact ⟨⟨1,by simp,by omega,v⟩,by simp[intOf]⟩
   ·have F:wr.cell? (aV Bc 0)=some (iV 2):=by simpa using l
    clear l B
    obtain ⟨b,o,n,cap,q,y,m,r,f,⟨nm,g⟩,p⟩:=(s.o0 rfl).ren d.o.c4 d.o.ko (new:=FT) (by decide)
    have E:(k:Int) < (n:Int):=by have:=d.o.ko;omega
    have x:n<=140737488355328:=by rw[y];exact d.o.lo
    have U:wr.cell? (aV B15 21)=some (.slice (some (aV b o)) n cap):=by
     have e:=d.o.x15
     have e2:=(s.low B15 d.o.b15.2.1 d.o.b15.2.2 (by rw[J.o];have:=d.o.b15.1;omega)).trans ((I.o B15 d.o.b15.1).trans e)
     simp only[World.cell?,e2]
     simpa using q
    have G:wr.frozen? (aV b (o+k*51))=false:=by
     obtain ⟨cs,t,e⟩:=f
     simp[World.frozen?,e]
    have v:Hid (RI W1 A s0 s1 hi1 s2 hi2 2 k B15 B16 ps qs yo yn 1 ((wr.setCell (aV b (o+k*51)) (.string {data:=#[122,122,95,57]})).drew)):=yb (s.XR (by have:=d.o.rs;have:=d.o.r5;have:=D.o;omega) d.o.rs m r (BW f g) (p _ (BW f g)))
    change wr.cell? (aV b (o+k*51))=some (.string nm) at g
    clear q y m r f p s
    go_wp2_with fail
    go_region
    go_wp2
    exact ⟨⟨1,by simp,by omega,v⟩,by simp[intOf]⟩
   ·have F:wr.cell? (aV Bc 0)=some (iV 3):=by simpa using l
    clear l B
    obtain ⟨b,o,n,cap,q,y,m,r,f,⟨nm,g⟩,p⟩:=(s.o0 rfl).ren d.o.c4 d.o.ko (new:=FT) (by decide)
    have E:(k:Int) < (n:Int):=by have:=d.o.ko;omega
    have x:n<=140737488355328:=by rw[y];exact d.o.lo
    have U:wr.cell? (aV B15 22)=some (.slice (some (aV b o)) n cap):=by
     have e:=d.o.x15
     have e2:=(s.low B15 d.o.b15.2.1 d.o.b15.2.2 (by rw[J.o];have:=d.o.b15.1;omega)).trans ((I.o B15 d.o.b15.1).trans e)
     simp only[World.cell?,e2]
     simpa using q
    have G:wr.frozen? (aV b (o+k*12))=false:=by
     obtain ⟨cs,t,e⟩:=f
     simp[World.frozen?,e]
    have v:Hid (RI W1 A s0 s1 hi1 s2 hi2 3 k B15 B16 ps qs yo yn 1 ((wr.setCell (aV b (o+k*12)) (.string {data:=#[122,122,95,57]})).drew)):=yb (s.XR (by have:=d.o.rs;have:=d.o.r5;have:=D.o;omega) d.o.rs m r (BW f g) (p _ (BW f g)))
    change wr.cell? (aV b (o+k*12))=some (.string nm) at g
    clear q y m r f p s
    go_wp2_with fail
    go_region
    go_wp2
    exact ⟨⟨1,by simp,by omega,v⟩,by simp[intOf]⟩
  ·have B:=d.o.c4
   obtain rfl|rfl|rfl|rfl:c=0∨c=1∨c=2∨c=3:=by omega
   ·have F:wr.cell? (aV Bc 0)=some (iV 0):=by simpa using l
    clear l B
    obtain ⟨b,o,n,cap,q,y,m,r,f,⟨nm,g⟩,p⟩:=(s.n0 (by omega)).ren d.o.c4 d.o.kn (new:=FT) (by decide)
    have E:(k:Int) < (n:Int):=by have:=d.o.kn;omega
    have x:n<=140737488355328:=by rw[y];exact d.o.ln
    have U:wr.cell? (aV B16 19)=some (.slice (some (aV b o)) n cap):=by
     have e:=d.o.x16
     have e2:=(s.low B16 d.o.b16.2.1 d.o.b16.2.2 (by rw[J.o];have:=d.o.b16.1;omega)).trans ((I.o B16 d.o.b16.1).trans e)
     simp only[World.cell?,e2]
     simpa using q
    have G:wr.frozen? (aV b (o+k*7))=false:=by
     obtain ⟨cs,t,e⟩:=f
     simp[World.frozen?,e]
    have v:Hid (RI W1 A s0 s1 hi1 s2 hi2 0 k B15 B16 ps qs yo yn 2 ((wr.setCell (aV b (o+k*7)) (.string {data:=#[122,122,95,57]})).drew)):=yb (s.XS (by have:=d.o.rs;have:=d.o.r5;have:=D.o;omega) d.o.rs m r (BW f g) (p _ (BW f g)))
    change wr.cell? (aV b (o+k*7))=some (.string nm) at g
    clear q y m r f p s
    go_wp2_with fail
    go_region
    go_wp2
    exact ⟨⟨2,by simp,by omega,v⟩,by simp[intOf]⟩
   ·have F:wr.cell? (aV Bc 0)=some (iV 1):=by simpa using l
    clear l B
    obtain ⟨b,o,n,cap,q,y,m,r,f,⟨nm,g⟩,p⟩:=(s.n0 (by omega)).ren d.o.c4 d.o.kn (new:=FT) (by decide)
    have E:(k:Int) < (n:Int):=by have:=d.o.kn;omega
    have x:n<=140737488355328:=by rw[y];exact d.o.ln
    have U:wr.cell? (aV B16 20)=some (.slice (some (aV b o)) n cap):=by
     have e:=d.o.x16
     have e2:=(s.low B16 d.o.b16.2.1 d.o.b16.2.2 (by rw[J.o];have:=d.o.b16.1;omega)).trans ((I.o B16 d.o.b16.1).trans e)
     simp only[World.cell?,e2]
     simpa using q
    have G:wr.frozen? (aV b (o+k*7))=false:=by
     obtain ⟨cs,t,e⟩:=f
     simp[World.frozen?,e]
    have v:Hid (RI W1 A s0 s1 hi1 s2 hi2 1 k B15 B16 ps qs yo yn 2 ((wr.setCell (aV b (o+k*7)) (.string {data:=#[122,122,95,57]})).drew)):=yb (s.XS (by have:=d.o.rs;have:=d.o.r5;have:=D.o;omega) d.o.rs m r (BW f g) (p _ (BW f g)))
    change wr.cell? (aV b (o+k*7))=some (.string nm) at g
    clear q y m r f p s
    go_wp2_with fail
    go_region
    go_wp2
    exact ⟨⟨2,by simp,by omega,v⟩,by simp[intOf]⟩
   ·have F:wr.cell? (aV Bc 0)=some (iV 2):=by simpa using l
    clear l B
    obtain ⟨b,o,n,cap,q,y,m,r,f,⟨nm,g⟩,p⟩:=(s.n0 (by omega)).ren d.o.c4 d.o.kn (new:=FT) (by decide)
    have E:(k:Int) < (n:Int):=by have:=d.o.kn;omega
    have x:n<=140737488355328:=by rw[y];exact d.o.ln
    have U:wr.cell? (aV B16 21)=some (.slice (some (aV b o)) n cap):=by
     have e:=d.o.x16
     have e2:=(s.low B16 d.o.b16.2.1 d.o.b16.2.2 (by rw[J.o];have:=d.o.b16.1;omega)).trans ((I.o B16 d.o.b16.1).trans e)
     simp only[World.cell?,e2]
     simpa using q
    have G:wr.frozen? (aV b (o+k*51))=false:=by
     obtain ⟨cs,t,e⟩:=f
     simp[World.frozen?,e]
    have v:Hid (RI W1 A s0 s1 hi1 s2 hi2 2 k B15 B16 ps qs yo yn 2 ((wr.setCell (aV b (o+k*51)) (.string {data:=#[122,122,95,57]})).drew)):=yb (s.XS (by have:=d.o.rs;have:=d.o.r5;have:=D.o;omega) d.o.rs m r (BW f g) (p _ (BW f g)))
    change wr.cell? (aV b (o+k*51))=some (.string nm) at g
    clear q y m r f p s
    go_wp2_with fail
    go_region
    go_wp2
    exact ⟨⟨2,by simp,by omega,v⟩,by simp[intOf]⟩
   ·have F:wr.cell? (aV Bc 0)=some (iV 3):=by simpa using l
    clear l B
    obtain ⟨b,o,n,cap,q,y,m,r,f,⟨nm,g⟩,p⟩:=(s.n0 (by omega)).ren d.o.c4 d.o.kn (new:=FT) (by decide)
    have E:(k:Int) < (n:Int):=by have:=d.o.kn;omega
    have x:n<=140737488355328:=by rw[y];exact d.o.ln
    have U:wr.cell? (aV B16 22)=some (.slice (some (aV b o)) n cap):=by
     have e:=d.o.x16
     have e2:=(s.low B16 d.o.b16.2.1 d.o.b16.2.2 (by rw[J.o];have:=d.o.b16.1;omega)).trans ((I.o B16 d.o.b16.1).trans e)
     simp only[World.cell?,e2]
     simpa using q
    have G:wr.frozen? (aV b (o+k*12))=false:=by
     obtain ⟨cs,t,e⟩:=f
     simp[World.frozen?,e]
    have v:Hid (RI W1 A s0 s1 hi1 s2 hi2 3 k B15 B16 ps qs yo yn 2 ((wr.setCell (aV b (o+k*12)) (.string {data:=#[122,122,95,57]})).drew)):=yb (s.XS (by have:=d.o.rs;have:=d.o.r5;have:=D.o;omega) d.o.rs m r (BW f g) (p _ (BW f g)))
    change wr.cell? (aV b (o+k*12))=some (.string nm) at g
    clear q y m r f p s
    go_wp2_with fail
    go_region
    go_wp2
    exact ⟨⟨2,by simp,by omega,v⟩,by simp[intOf]⟩
  ·have b3:wr.heap.size=W.heap.size+1:=s.size.trans J.o
   have R:∀ {j:Nat} {o:Obj},j < W.heap.size->¬(s1<=j∧j < hi1)->¬(s2<=j∧j < hi2)->W.heap[j]?=some o->wr.heap[j]?=some o:=fun {j o} h0 h1 h2 h3=>(s.low j h1 h2 (by rw[J.o];omega)).trans ((I.o j h0).trans h3)
   have ak:=yb (Aw (R d.o.b15.1 d.o.b15.2.1 d.o.b15.2.2 d.o.x15))
   have a2:=yb (Aw (R d.o.b16.1 d.o.b16.2.1 d.o.b16.2.2 d.o.x16))
   have ai:Hid (∀j,j < s0->wr.heap[j]?=W.heap[j]?):=yb (fun j L=>by
    have hr:=d.o.rs
    have h5:=d.o.r5
    exact (s.low j (by omega) (by omega) (by rw[J.o];omega)).trans (I.o j (by omega)))
   have am:Hid (GV wr):=yb (UJ d.o.gv (ai.o 0 (by have:=d.o.gw;have:=d.o.r0;omega)) (by omega))
   have al:Hid (Below w.heap.size w wr):=yb (by
    have hb:=d.o.bl
    have hp:=ar.o
    have ba:=d.o.r0
    exact ⟨s.os.trans (hp.1.trans hb.os),s.tape.trans (hp.2.1.trans hb.tape),s.output.trans (hp.2.2.trans hb.output),by have:=hb.size;omega,fun j L=>(ai.o j (by omega)).trans (hb.block j L)⟩)
   have ae:Hid (Dy (Tf wr) wr ps (BE c k FT yo)):=yb ((s.o1 (by omega)).wide (fun j L=>by unfold Tf;have:=L.2;have:=d.o.rs;have:=d.o.r5;omega) (fun _ _=>rfl))
   have a8:Hid (Dy (Tf wr) wr qs (BE c k FT yn)):=yb ((s.n1 (by omega)).wide (fun j L=>by unfold Tf;have:=L.2;have:=d.o.r5;omega) (fun _ _=>rfl))
   have a6:=yb ae.o.len;have aj:=yb a8.o.len
   have HC:Hid (Calls Try.prog 11 #[.agg ps.toArray] wr (FJ wr (BE c k FT yo))):=yb (by
    obtain ⟨Ly,hv⟩:=ae.o
    exact Ej hv (fun _ h=>h) d.o.slim am.o d.o.deep)
   have Q:PO (BE c k FT yo)=BE c k FT yn:=by unfold PO;rw[yw d.o.wr,d.o.rv]
   have b5:=yb Q
   have aq:=yb d.o.wr
   have av:=yb d.o.fw
   have an:=yb (s.low)
   have af:Hid (B16 < wr.heap.size):=yb (by have:=d.o.b16.1;omega)
   clear l a7 ag b4 s Q b3 R
   go_wp2
   refine hK.o _ _ ?_
   refine Af fun K2 ac=>?_
   go_wp2_with (first
    |(refine ym rfl 35 _ rfl B15 0 rfl ps _ ak.o qM rfl (AU (n:=26) (by kernel_rfl) a6.o) ?_)
    |(go_at_call 11;refine HC.o.mono ?_;intro e w8 P;obtain ⟨ah,ms,rfl,N⟩:=PQ P;rw[b5.o] at N;rw[aq.o];have ao:=yb N;have a1:=yb ah;have S:=yb N.len;have ax:=yb N.one;clear P ah N)
    |(refine Ae rfl 35 _ _ rfl w8.heap.size rfl ms rfl (World.alloc_heap_new _ _) (by rw[S.o];rfl) (AU (n:=26) (by kernel_rfl) S.o) ax.o ?_;intro X a0;have Z:=yb a0;clear a0))
   refine ac.o _ _ ?_
   clear ac K2
   have M:Hid (Below w8.heap.size w8 X):=yb (Z.o.below ((yg _ _).alloc (yf _) _) (yf _))
   have C:Hid (Below wr.heap.size wr X):=yb (a1.o.trans (M.o.mono a1.o.size))
   have az:Hid (Dy (Tf X) X qs (BE c k FT yn)):=yb (a8.o.wide (fun b hb=>yr hb C.o.size) (fun b hb=>C.o.block b hb))
   have ay:Hid (Dy (Tf X) X ms (BE c k FT yn)):=yb (ao.o.wide (fun b hb=>yr hb M.o.size) (fun b hb=>M.o.block b hb))
   have au:=yb (Aw Z.o.row)
   have T:=yb (A2 a2.o (C.o.block _ af.o))
   have aw:=yb (SY ay.o az.o av.o)
   go_wp2_with (first
    |(refine EG (by kernel_rfl) 35 _ rfl w8.heap.size 0 rfl ms _ au.o qM rfl (AU (n:=26) (by kernel_rfl) S.o) ?_)
    |(refine EG (by kernel_rfl) 35 _ rfl B16 0 rfl qs _ T.o qM rfl (AU (n:=26) (by kernel_rfl) aj.o) ?_)
    |(refine Ft (by kernel_rfl) fun K5 ad=>?_;go_simp;refine aw.o.mono ?_;rintro e b9 ⟨rfl,O⟩;have aa:=yb O;clear O;refine ad _ _ ?_;clear ad K5))
   go_ret
   exact ⟨rfl,al.o.trans ((C.o.trans (aa.o.mono C.o.size)).mono al.o.size)⟩
set_option linter.unusedSimpArgs false
section
variable{P:Program}{ops:Array Oper}{Q:QT}{md:Region.Mode}{T:World->Prop}{k:Nat}
theorem JV{i j m:Nat}{o l o2:Oper}{fuel:Nat}{b:Array Bool}{a:Act}{w:World}(r:Region.ready md ops b=[i,j,m])(s:ops[i]?=some o)(p:ops[j]?=some l)(q:ops[m]?=some o2)
 (h:∀K:Act->World->Prop,Hid (∀a w,((b.setIfInBounds i true).getD k true=false->T w)->Da P md ops Q T k fuel (b.setIfInBounds i true) a w->K a w)->if Region.wanted o (yielded ops a.tmps)=true then Oper.wp P o a w K Q else K (a.put o.dst undef) w)
 (t:∀K:Act->World->Prop,Hid (∀a w,((b.setIfInBounds j true).getD k true=false->T w)->Da P md ops Q T k fuel (b.setIfInBounds j true) a w->K a w)->if Region.wanted l (yielded ops a.tmps)=true then Oper.wp P l a w K Q else K (a.put l.dst undef) w)
 (h2:∀K:Act->World->Prop,Hid (∀a w,((b.setIfInBounds m true).getD k true=false->T w)->Da P md ops Q T k fuel (b.setIfInBounds m true) a w->K a w)->if Region.wanted o2 (yielded ops a.tmps)=true then Oper.wp P o2 a w K Q else K (a.put o2.dst undef) w):Da P md ops Q T k (fuel+1) b a w:=by
 refine ⟨fun h0=>(by rw[r] at h0;cases h0),fun n c=>?_⟩
 rw[r] at c
 rcases yK.1 c with rfl|c
 ·exact wpOp_step s (fun f e=>h f (yb fun a w d g=>e a w ⟨d,g⟩))
 ·rcases yK.1 c with rfl|c
  ·exact wpOp_step p (fun f e=>t f (yb fun a w d g=>e a w ⟨d,g⟩))
  ·obtain rfl:=zh.1 c
   exact wpOp_step q (fun f e=>h2 f (yb fun a w d g=>e a w ⟨d,g⟩))
end
structure XK (w:World) (N:Nat->Prop) (L Ly:Bw) (Ny:Nat->Prop) (cs ks:List Value) (x:Am) (c k B7 Bc Ba Bk:Nat) (hd:Ai) (nms:List ByteArray) (W7:World):Prop where
 h1:Bc < Ba
 h2:Ba < Bk
 hk:k < nms.length
 nmsE:nms=(Tb.of x).at c
 c4:c < 4
 new:FT∉nms
 sx:Bb N W7 L cs x
 nx:∀b,N b->b < w.heap.size
 sy:Bb Ny W7 Ly ks (Ab x)
 ny:∀b,Ny b->b < Bc
 slx:Rz x
 sly:Rz (Ab x)
 r0:w.heap.size<=Bc
 b7:B7 < Bc
 b7w:w.heap.size < B7
 bk:Bk+1<=W7.heap.size
 xs:W7.rangeAt w.heap.size 0 cs
 xk:W7.rangeAt B7 0 ks
 j:PZ Bc Ba Bk hd nms c k W7
 gv:GV W7
 gw:0 < w.heap.size
 bl:Below w.heap.size w W7
 wr:Ay x=0
 dp:∀e∈AN x,AJ e.1<=1000000
 fw:Fw x
theorem KC{Bc Ba Bk:Nat}{hd:Ai}{nms:LB}{c k:Nat}{d V:World}{N:NP}{L:Bw}{cs:LV}{x:Am}(h1:Bc < Ba)(h2:Ba < Bk)(hk:k < nms.length)(l:Bb N d L cs x)(hN:∀b,N b->b < Bc)(f:Rz x)(m:Bk+1<=d.heap.size)(g:BX (BD Bc (Bk+1)) d.heap.size d V)(o:PZ Bc Ba Bk hd nms c k V):
  Calls Try.prog 17 #[.agg cs.toArray,.func (.func 20) #[] #[.pointer (some ⟨Bc,0,none⟩),.pointer (some ⟨Ba,0,none⟩),.pointer (some ⟨Bk,0,none⟩)]] V fun e V'=>∃ps:LV,e=.returned (.agg ps.toArray)∧Pk Bc V.heap.size V'.heap.size V' ps (Df (Ds c nms[k] FT) x)∧PZ Bc Ba Bk hd nms c k V'∧BX (BD Bc (Bk+1)) V.heap.size V V':=by
 have hs:=g.size
 refine (Pu (b:=true) (G:=fun j=>Bc<=j∧j < V.heap.size) (SO (hd:=hd) h1 h2 hk) (l.same (N':=GF (fun j=>Bc<=j∧j < V.heap.size) V) (fun b hb=>⟨fun h=>by have:=hN b hb;omega,by have:=hN b hb;omega⟩) (fun b hb=>g.block b (by have:=hN b hb;omega) (fun h=>by have:=hN b hb;have:=h.1;omega))) f (fun j a=>⟨a.1,by have:=a.2;omega⟩) (fun j a=>a.2) o).mono ?_
 intro e V' i
 obtain ⟨ps,n,p,a,hb⟩:=Xn (s0:=Bc) i (fun j h1 h2=>⟨h1,h2⟩) (by omega)
 exact ⟨ps,n,p,a,hb⟩
theorem QP(c:Nat)(x:Am):Iw c x=((Tb.of x).at c).length:=by
 unfold Iw Tb.at Tb.of
 by_cases h0:c=0
 ·subst h0;simp
 ·by_cases h1:c=1
  ·subst h1;simp
  ·by_cases h2:c=2
   ·subst h2;simp
   ·have e0:¬ (c:Int)=0:=by omega
    have e1:¬ (c:Int)=1:=by omega
    have e2:¬ (c:Int)=2:=by omega
    simp only[yu h0,yu h1,yu h2,yu e0,yu e1,yu e2,yN]
theorem Oh(c:Nat)(g:Int->Rf->Rf)(x:Am):Iw c (Df g x)=Iw c x:=by
 unfold Iw Df
 simp
theorem UK(c:Nat)(x:Am):Iw c (Ab x)=Iw c x:=by
 unfold Iw Ab Am.mp
 simp
theorem VI{x:Am}(h:Fw x)(c k:Nat)(new:ByteArray):Fw (BE c k new x):=
 ⟨by simpa[BE] using h.lets,by simpa[BE] using h.crops,by simpa[BE] using h.reaches,by simpa[BE] using h.farms,h.rots,h.rights,h.duties,h.turns⟩
mutual
theorem PR(g:Int->Rf->Rf):∀e:Ex,Bg e->Bg (AQ g e)
 |.mk op n u rn ri args,h=>by
  rw[Bg] at h
  rw[AQ,Bg,M9]
  exact ⟨h.1,NA g args h.2⟩
theorem NA(g:Int->Rf->Rf):∀l:List Ex,E1 l->E1 (Ht g l)
 |[],_=>by rw[Ht,E1];trivial
 |e::r,h=>by
  rw[E1] at h
  rw[Ht,E1]
  exact ⟨PR g e h.1,NA g r h.2⟩
end
theorem UL{x:Am}(h:Ih x)(g:Int->Rf->Rf)(c k:Nat)(new:ByteArray):Ih (BE c k new (Df g x)):=by
 refine ⟨by simpa[BE,Df] using h.lets,by simpa[BE,Df] using h.crops,by simpa[BE,Df] using h.reaches,by simpa[BE,Df] using h.farms,by simpa[BE,Df] using h.rots,by simpa[BE,Df] using h.rights,by simpa[BE,Df] using h.duties,?_,?_⟩
 ·intro d hd
  have a:d∈x.rots.map (Fm g):=hd
  obtain ⟨y,f,rfl⟩:=zy.1 a
  simpa[Fm] using h.turns y f
 ·intro e b
  rw[Kn,Hv,IQ] at b
  obtain ⟨d,hd,rfl⟩:=zy.1 b
  exact PR g _ (h.exprs d hd)
theorem UN{x:Am}(h:∀e∈AN x,AJ e.1<=1000000)(g:Int->Rf->Rf)(c k:Nat)(new:ByteArray):∀e∈AN (BE c k new (Df g x)),AJ e.1<=1000000:=by
 intro e a
 rw[Kn,Hv,IQ] at a
 obtain ⟨d,hd,rfl⟩:=zy.1 a
 unfold QE
 simp only[Km]
 exact h d hd
theorem VJ{W W':World}(h:GV W)(hb:W'.heap[0]?=W.heap[0]?)(hs:W.heap.size<=W'.heap.size):GV W':=by
 obtain ⟨h1,m,h2⟩:=h
 refine ⟨by omega,m,?_⟩
 simp only[World.cell?,hb] at h2 ⊢
 exact h2
theorem VK{w:World}{N:NP}{L Ly:Bw}{Ny:NP}{cs ks:LV}{x:Am}{c k B7 Bc Ba Bk:Nat}{hd:Ai}{nms:LB}{n:World}(hM:XK w N L Ly Ny cs ks x c k B7 Bc Ba Bk hd nms n){va vb vc vd ve v5 v6:World}{B15 B16:Nat}{ps qs:LV}
 (D:Pk Bc va.heap.size vb.heap.size vb ps (Df (Ds c (nms[k]'hM.hk) FT) x))(M:Pk Bc vc.heap.size vd.heap.size vd qs (Df (Ds c (nms[k]'hM.hk) FT) (Ab x)))(A:BX (BD Bc (Bk+1)) vb.heap.size vb ve)(p:BX (BD Bc (Bk+1)) vd.heap.size vd ve)(B:vb.heap.size<=vc.heap.size)(G:n.heap.size<=va.heap.size)(u:va.heap.size<=vb.heap.size)(s:vc.heap.size<=vd.heap.size)
 (i:BX (BD Bc (Bk+1)) n.heap.size n ve)(d:PZ Bc Ba Bk hd nms c k ve)(g:Au ve v5 B15 ps 35)(f:Au v5 v6 B16 qs 35)(t:B15≠B16)(K:n.heap.size<=B15)(H:n.heap.size<=B16)
 (v:¬(va.heap.size<=B15∧B15 < vb.heap.size)∧¬(vc.heap.size<=B15∧B15 < vd.heap.size))(y:¬(va.heap.size<=B16∧B16 < vb.heap.size)∧¬(vc.heap.size<=B16∧B16 < vd.heap.size)):
  XJ w c k Bc va.heap.size vb.heap.size vc.heap.size vd.heap.size Bc Bk B15 B16 ps qs (Df (Ds c (nms[k]'hM.hk) FT) x) (Df (Ds c (nms[k]'hM.hk) FT) (Ab x)) v6:=by
 have I:=hM.bk
 have h1:=hM.h1;have h2:=hM.h2
 have O:=i.size
 have E:=g.size;have z:=f.size
 have C:=p.size
 have l:∀j,j≠B15->j≠B16->v6.heap[j]?=ve.heap[j]?:=fun j a b=>(f.block j b).trans (g.block j a)
 have m:∀j,j < Bc->v6.heap[j]?=n.heap[j]?:=fun j d=>(l j (by omega) (by omega)).trans (i.block j (by omega) (fun h=>by have:=h.1;omega))
 obtain ⟨J,F⟩:=QJ hM.wr hM.c4 (k:=k) (old:=nms[k]'hM.hk) (new:=FT) (by rw[<-hM.nmsE];simp[hM.hk]) (by rw[<-hM.nmsE];exact hM.new) (by decide+kernel)
 have o:k < Iw c x:=by rw[QP,<-hM.nmsE];exact hM.hk
 have q:Iw c x<=140737488355328:=by
  have r:=hM.fw
  have P:=r.lets;have R:=r.crops;have Q:=r.reaches;have a3:=r.farms
  unfold Iw
  split
  ·omega
  ·split
   ·omega
   ·split<;>omega
 refine ⟨hM.c4,by rw[Oh];exact o,by rw[Oh,UK];exact o,by rw[Oh];exact q,by rw[Oh,UK];exact q,⟨by omega,u,B,s⟩,by omega,hM.r0,⟨yf _,by omega⟩,⟨by omega,by omega⟩,⟨?_,v⟩,⟨?_,y⟩,(l _ (by omega) (by omega)).trans d.cb,(l _ (by omega) (by omega)).trans d.kb,(f.block _ t).trans g.row,f.row,?_,?_,?_,?_,hM.gw,J,F,UL hM.slx.slim _ _ _ _,UN hM.dp _ _ _ _,VI (by rw[Hv];exact UI (UI hM.fw _ _) _ _) _ _ _⟩
 ·rw[z];exact (ye.1 g.row).1
 ·exact (ye.1 f.row).1
 ·exact D.to (by omega) (fun j d=>(l j (fun e=>by subst e;have:=d.1;have:=d.2;omega) (fun e=>by subst e;have:=d.1;have:=d.2;omega)).trans (A.block j d.2 (fun h=>by have:=h.1;have:=h.2;have:=d.1;omega)))
 ·exact M.to (by omega) (fun j d=>(l j (fun e=>by subst e;have:=d.1;have:=d.2;omega) (fun e=>by subst e;have:=d.1;have:=d.2;omega)).trans (p.block j d.2 (fun h=>by have:=h.1;have:=h.2;have:=d.1;omega)))
 ·exact VJ hM.gv (m 0 (by have:=hM.gw;have:=hM.r0;omega)) (by omega)
 ·have r0:=hM.r0
  exact ⟨f.os.trans (g.os.trans (i.os.trans hM.bl.os)),f.tape.trans (g.tape.trans (i.tape.trans hM.bl.tape)),f.output.trans (g.output.trans (i.output.trans hM.bl.output)),by have:=hM.bl.size;omega,fun j d=>(m j (by omega)).trans (hM.bl.block j d)⟩
structure UM (w:World) (B7 Bc Ba Bk:Nat) (u:Nat->Value):Prop where
 u3:u 3=.pointer (some ⟨w.heap.size,0,none⟩)
 u7:u 7=.pointer (some ⟨B7,0,none⟩)
 u9:u 9=.pointer (some ⟨Bc,0,none⟩)
 u10:u 10=.pointer (some ⟨Ba,0,none⟩)
 u11:u 11=.pointer (some ⟨Bk,0,none⟩)
 u14:u 14=.func (.func 20) #[] #[.pointer (some ⟨Bc,0,none⟩),.pointer (some ⟨Ba,0,none⟩),.pointer (some ⟨Bk,0,none⟩)]
theorem VL{w:World}{N:NP}{L Ly:Bw}{Ny:NP}{cs ks:LV}{x:Am}{c k B7 Bc Ba Bk:Nat}{hd:Ai}{nms:LB}{W7:World}{u:Nat->Value}(hM:XK w N L Ly Ny cs ks x c k B7 Bc Ba Bk hd nms W7)(hu:UM w B7 Bc Ba Bk u):
  Code.wp Try.prog (CJ 10 (Try.f7.body.getD .skip)) (bodyPost Try.prog Try.f7 fun e w'=>e=.returned (.bool true)∧Below w.heap.size w w') {tmps:=Of u,defers:=[]} W7:=by
 rw[Og,hu.u3,hu.u7,hu.u9,hu.u10,hu.u11,hu.u14]
 have HM:=yb hM
 clear hM hu
 have H1:=yb HM.o.h1;have H2:=yb HM.o.h2
 have bg:Hid (∀V,BX (BD Bc (Bk+1)) W7.heap.size W7 V->PZ Bc Ba Bk hd nms c k V->Calls Try.prog 17 #[.agg cs.toArray,.func (.func 20) #[] #[pV Bc 0,pV Ba 0,pV Bk 0]] V fun e V'=>∃ps:LV,e=.returned (.agg ps.toArray)∧Pk Bc V.heap.size V'.heap.size V' ps (Df (Ds c (nms[k]'HM.o.hk) FT) x)∧PZ Bc Ba Bk hd nms c k V'∧BX (BD Bc (Bk+1)) V.heap.size V V'):=yb (fun V hV hJ=>KC HM.o.h1 HM.o.h2 HM.o.hk HM.o.sx (fun b hb=>yr (HM.o.nx b hb) HM.o.r0) HM.o.slx HM.o.bk hV hJ)
 have az:Hid (∀V,BX (BD Bc (Bk+1)) W7.heap.size W7 V->PZ Bc Ba Bk hd nms c k V->Calls Try.prog 17 #[.agg ks.toArray,.func (.func 20) #[] #[pV Bc 0,pV Ba 0,pV Bk 0]] V fun e V'=>∃ps:LV,e=.returned (.agg ps.toArray)∧Pk Bc V.heap.size V'.heap.size V' ps (Df (Ds c (nms[k]'HM.o.hk) FT) (Ab x))∧PZ Bc Ba Bk hd nms c k V'∧BX (BD Bc (Bk+1)) V.heap.size V V'):=yb (fun V hV hJ=>KC HM.o.h1 HM.o.h2 HM.o.hk HM.o.sy HM.o.ny HM.o.sly HM.o.bk hV hJ)
 have ao:=yb (fun va vb vc vd ve v5 v6 B15 B16 ps qs a1 a2 a3 a4 a5 a6 a7 a8 a9 b1 b2 b3 b4 b5 b6 b7 b8=>VK HM.o (va:=va) (vb:=vb) (vc:=vc) (vd:=vd) (ve:=ve) (v5:=v5) (v6:=v6) (B15:=B15) (B16:=B16) (ps:=ps) (qs:=qs) a1 a2 a3 a4 a5 a6 a7 a8 a9 b1 b2 b3 b4 b5 b6 b7 b8)
 have R:Hid (Bk < W7.heap.size):=yb (ye.1 HM.o.j.kb).1
 obtain ⟨v0,bh⟩:∃z:World,z=W7.drew:=⟨_,rfl⟩
 have a:Hid (W7.heap.size<=v0.heap.size):=yb (by rw[bh];exact yf _)
 have g:Hid (BX (BD Bc (Bk+1)) v0.heap.size W7 v0):=yb (by rw[bh];exact (BX.refl _ _ _).drew)
 have bi:Hid (PZ Bc Ba Bk hd nms c k v0):=yb (by rw[bh];exact HM.o.j.to HM.o.h1 HM.o.h2 (fun _ _=>rfl) (yf _))
 have bp:Hid (cs.length=26):=yb (Dy.len ⟨_,HM.o.sx⟩)
 have bq:Hid (ks.length=26):=yb (Dy.len ⟨_,HM.o.sy⟩)
 have bo:Hid (∀W,BX (BD Bc (Bk+1)) W7.heap.size W7 W->W.rangeAt w.heap.size 0 cs):=yb (fun W hW=>A2 HM.o.xs (hW.block _ (by have:=HM.o.b7;have:=R.o;have:=HM.o.h1;have:=HM.o.h2;have:=HM.o.b7w;omega) (fun h=>by have:=h.1;have:=HM.o.b7;have:=HM.o.b7w;omega)))
 have bt:Hid (∀W,BX (BD Bc (Bk+1)) W7.heap.size W7 W->W.rangeAt B7 0 ks):=yb (fun W hW=>A2 HM.o.xk (hW.block _ (by have:=HM.o.b7;have:=R.o;have:=HM.o.h1;have:=HM.o.h2;omega) (fun h=>by have:=h.1;have:=HM.o.b7;omega)))
 refine Af fun K3 ay=>?_
 refine wp_region_noPanic ?_
 refine BZ (by kernel_rfl) (fun W=>BX (BD Bc (Bk+1)) W7.heap.size W7 W) 9 ?_
 rw[<-bh]
 clear bh
 refine Aj (i:=0) (v:=.agg (cs).toArray) rfl (by kernel_rfl) (by kernel_rfl) (by kernel_rfl) (fun _ _ _ h=>h) (by kernel_rfl) (yS (by rfl) 35 _ rfl (w.heap.size) 0 (by kernel_rfl) (cs) _ (fun W hW=>bo.o W hW) qM rfl (AU (n:=26) (by kernel_rfl) bp.o)) (g.o.mono a.o) ?_
 refine A1 (i:=1) (v:=.func (.func 20) #[] #[pV Bc 0,pV Ba 0,pV Bk 0]) rfl (by kernel_rfl) (by kernel_rfl) (by kernel_rfl) (fun _ _ _ h=>h) (by kernel_rfl) (Or.inl ⟨by rfl,?_⟩) (fun _=>(g.o.mono a.o)) ?_
 ·intro w _;go_simp
 refine Aj (i:=3) (v:=.agg (ks).toArray) rfl (by kernel_rfl) (by kernel_rfl) (by kernel_rfl) (fun _ _ _ h=>h) (by kernel_rfl) (yS (by rfl) 35 _ rfl (B7) 0 (by kernel_rfl) (ks) _ (fun W hW=>bt.o W hW) qM rfl (AU (n:=26) (by kernel_rfl) bq.o)) (g.o.mono a.o) ?_
 refine A1 (i:=4) (v:=.func (.func 20) #[] #[pV Bc 0,pV Ba 0,pV Bk 0]) rfl (by kernel_rfl) (by kernel_rfl) (by kernel_rfl) (fun _ _ _ h=>h) (by kernel_rfl) (Or.inl ⟨by rfl,?_⟩) (fun _=>(g.o.mono a.o)) ?_
 ·intro w _;go_simp
 refine JV (i:=2) (j:=6) (m:=7) (by kernel_rfl) rfl rfl rfl (fun K B=>?_) (fun K B=>?_) (fun K B=>?_)
 ·go_simp
  refine (bg.o v0 (g.o.mono a.o) bi.o).mono ?_
  rintro e G ⟨ps,rfl,bj,bn,bm⟩
  have Q:=yb bj;have ba:=yb bn;have r:Hid (BX (BD Bc (Bk+1)) v0.heap.size v0 G):=yb bm
  clear bj bn bm
  refine B.o _ _ (fun _=>((g.o.mono a.o).trans (r.o.mono a.o))) ?_
  clear B K
  refine JV (i:=5) (j:=6) (m:=7) (by kernel_rfl) rfl rfl rfl (fun K B=>?_) (fun K B=>?_) (fun K B=>?_)
  ·go_simp
   refine (az.o G ((g.o.mono a.o).trans (r.o.mono a.o)) ba.o).mono ?_
   rintro e D ⟨qs,rfl,bb,bd,be⟩
   have O:=yb bb;have ap:=yb bd;have s:Hid (BX (BD Bc (Bk+1)) G.heap.size G D):=yb be
   clear bb bd be
   have A:Hid (BX (BD Bc (Bk+1)) v0.heap.size v0 D):=yb (r.o.trans (s.o.mono r.o.size))
   refine B.o _ _ (fun _=>((g.o.mono a.o).trans (A.o.mono a.o))) ?_
   clear B K
   refine DO (i:=6) (j:=7) (by kernel_rfl) rfl rfl (fun K B=>?_) (fun K B=>?_)
   ·go_simp
    obtain ⟨v3,S⟩:∃z:World,z=D.alloc (.cells A5.toArray 35):=⟨_,rfl⟩
    have F:Hid (v3.heap[D.heap.size]?=some (.cells A5.toArray 35 (0,0))):=yb (by rw[S];exact World.alloc_heap_new _ _)
    have d:Hid (BX (BD Bc (Bk+1)) D.heap.size D v3):=yb (by rw[S];exact (BX.refl _ _ _).alloc (yf _) _)
    have ah:=yb (ap.o.to H1.o H2.o (W':=v3) (fun j hj=>by rw[S];exact yF _ _ _ (by have:=hj.2;have:=A.o.size;have:=a.o;have:=R.o;omega)) d.o.size)
    change K _ (D.alloc (.cells A5.toArray 35))
    rw[<-S]
    clear S
    have y:Hid (BX (BD Bc (Bk+1)) v0.heap.size v0 v3):=yb (A.o.trans (d.o.mono A.o.size))
    have H:Hid (BX (BD Bc (Bk+1)) G.heap.size G v3):=yb (s.o.trans (d.o.mono s.o.size))
    refine B.o _ _ (fun _=>((g.o.mono a.o).trans (y.o.mono a.o))) ?_
    clear B K
    refine A0 (i:=7) (by kernel_rfl) rfl (fun K B=>?_)
    go_simp
    obtain ⟨v4,ad⟩:∃z:World,z=v3.alloc (.cells A5.toArray 35):=⟨_,rfl⟩
    have E:Hid (v4.heap[v3.heap.size]?=some (.cells A5.toArray 35 (0,0))):=yb (by rw[ad];exact World.alloc_heap_new _ _)
    have f:Hid (BX (BD Bc (Bk+1)) v3.heap.size v3 v4):=yb (by rw[ad];exact (BX.refl _ _ _).alloc (yf _) _)
    have ag:=yb (ah.o.to H1.o H2.o (W':=v4) (fun j hj=>by rw[ad];exact yF _ _ _ (by have:=hj.2;have:=y.o.size;have:=a.o;have:=R.o;omega)) f.o.size)
    change K _ (v3.alloc (.cells A5.toArray 35))
    rw[<-ad]
    clear ad
    have C:Hid (BX (BD Bc (Bk+1)) v0.heap.size v0 v4):=yb (y.o.trans (f.o.mono y.o.size))
    have ac:Hid (BX (BD Bc (Bk+1)) G.heap.size G v4):=yb (H.o.trans (f.o.mono H.o.size))
    have Z:Hid (BX (BD Bc (Bk+1)) D.heap.size D v4):=yb (d.o.trans (f.o.mono d.o.size))
    refine B.o _ _ (fun _=>((g.o.mono a.o).trans (C.o.mono a.o))) ?_
    clear B K
    have I:v4.heap[D.heap.size]?=some (.cells A5.toArray 35 (0,0)):=(f.o.block _ (by have:=(ye.1 F.o).1;omega) (fun h=>by have:=h.2;have:=A.o.size;have:=R.o;have:=a.o;omega)).trans F.o
    have J:v4.heap[v3.heap.size]?=some (.cells A5.toArray 35 (0,0)):=E.o
    have al:=(ye.1 F.o).1
    have af:=(ye.1 E.o).1
    have ae:=yb I;have T:=yb J
    have X:=yb (Q.o.res).len;have aj:=yb (Q.o.res).one;have Y:=yb (O.o.res).len;have am:=yb (O.o.res).one
    have aa:Hid (D.heap.size≠v3.heap.size):=yb (by have:=r.o.size;have:=s.o.size;have:=d.o.size;have:=f.o.size;omega)
    clear I J al af
    refine A0 (i:=8) (by kernel_rfl) rfl (fun K B=>?_)
    rw[yw (by rfl)]
    refine A9 35 _ _ rfl (D.heap.size) 0 (by kernel_rfl) ps (by kernel_rfl) (p:=[]) (m:=A5) (q:=[]) (t:=35) (by simpa using ae.o) rfl (by rw[X.o];rfl) (AU (n:=26) (by kernel_rfl) X.o) aj.o ?_
    intro v5 U
    have M:Hid (Au v4 v5 (D.heap.size) ps 35):=yb (by simpa using U)
    have an:Hid (BX (BD Bc (Bk+1)) W7.heap.size W7 v5):=yb (((g.o.mono a.o).trans (C.o.mono a.o)).wrote M.o (by have:=A.o.size;have:=a.o;omega))
    refine B.o _ _ (fun _=>an.o) ?_
    clear B K U
    refine A0 (i:=9) (by kernel_rfl) rfl (fun K B=>?_)
    rw[yw (by rfl)]
    refine A9 35 _ _ rfl (v3.heap.size) 0 (by kernel_rfl) qs (by kernel_rfl) (p:=[]) (m:=A5) (q:=[]) (t:=35) (by have h:=(M.o.block _ aa.o.symm).trans T.o;simpa using h) rfl (by rw[Y.o];rfl) (AU (n:=26) (by kernel_rfl) Y.o) am.o ?_
    intro v6 a0
    have ak:Hid (Au v5 v6 (v3.heap.size) qs 35):=yb (by simpa using a0)
    refine B.o _ _ (by intro h;cases h) ?_
    clear B K a0
    refine AF (by kernel_rfl) ?_
    refine NoPanic.normal ?_
    refine ay.o _ _ ?_
    refine Dt (P:=fun l=>Code.wp Try.prog _ _ ⟨l,[]⟩ v6) rfl ?_
    refine FE (ao.o v0 G G D v4 v5 v6 (D.heap.size) (v3.heap.size) ps qs Q.o O.o ac.o Z.o (yf _) a.o r.o.size s.o.size ((g.o.mono a.o).trans (C.o.mono a.o)) ag.o M.o ak.o aa.o (by have:=A.o.size;have:=a.o;omega) (by have:=y.o.size;have:=a.o;omega) (by have:=r.o.size;have:=s.o.size;have:=d.o.size;have:=f.o.size;have:=(ye.1 F.o).1;have:=(ye.1 E.o).1;omega) (by have:=r.o.size;have:=s.o.size;have:=d.o.size;have:=f.o.size;have:=(ye.1 F.o).1;have:=(ye.1 E.o).1;omega)) ⟨?_,?_,?_,?_⟩
    all_goals rfl
   ·go_simp
    obtain ⟨v3,S⟩:∃z:World,z=D.alloc (.cells A5.toArray 35):=⟨_,rfl⟩
    have E:Hid (v3.heap[D.heap.size]?=some (.cells A5.toArray 35 (0,0))):=yb (by rw[S];exact World.alloc_heap_new _ _)
    have d:Hid (BX (BD Bc (Bk+1)) D.heap.size D v3):=yb (by rw[S];exact (BX.refl _ _ _).alloc (yf _) _)
    have ah:=yb (ap.o.to H1.o H2.o (W':=v3) (fun j hj=>by rw[S];exact yF _ _ _ (by have:=hj.2;have:=A.o.size;have:=a.o;have:=R.o;omega)) d.o.size)
    change K _ (D.alloc (.cells A5.toArray 35))
    rw[<-S]
    clear S
    have y:Hid (BX (BD Bc (Bk+1)) v0.heap.size v0 v3):=yb (A.o.trans (d.o.mono A.o.size))
    have H:Hid (BX (BD Bc (Bk+1)) G.heap.size G v3):=yb (s.o.trans (d.o.mono s.o.size))
    refine B.o _ _ (fun _=>((g.o.mono a.o).trans (y.o.mono a.o))) ?_
    clear B K
    refine A0 (i:=6) (by kernel_rfl) rfl (fun K B=>?_)
    go_simp
    obtain ⟨v4,ad⟩:∃z:World,z=v3.alloc (.cells A5.toArray 35):=⟨_,rfl⟩
    have F:Hid (v4.heap[v3.heap.size]?=some (.cells A5.toArray 35 (0,0))):=yb (by rw[ad];exact World.alloc_heap_new _ _)
    have f:Hid (BX (BD Bc (Bk+1)) v3.heap.size v3 v4):=yb (by rw[ad];exact (BX.refl _ _ _).alloc (yf _) _)
    have ag:=yb (ah.o.to H1.o H2.o (W':=v4) (fun j hj=>by rw[ad];exact yF _ _ _ (by have:=hj.2;have:=y.o.size;have:=a.o;have:=R.o;omega)) f.o.size)
    change K _ (v3.alloc (.cells A5.toArray 35))
    rw[<-ad]
    clear ad
    have C:Hid (BX (BD Bc (Bk+1)) v0.heap.size v0 v4):=yb (y.o.trans (f.o.mono y.o.size))
    have ac:Hid (BX (BD Bc (Bk+1)) G.heap.size G v4):=yb (H.o.trans (f.o.mono H.o.size))
    have Z:Hid (BX (BD Bc (Bk+1)) D.heap.size D v4):=yb (d.o.trans (f.o.mono d.o.size))
    refine B.o _ _ (fun _=>((g.o.mono a.o).trans (C.o.mono a.o))) ?_
    clear B K
    have I:v4.heap[v3.heap.size]?=some (.cells A5.toArray 35 (0,0)):=F.o
    have J:v4.heap[D.heap.size]?=some (.cells A5.toArray 35 (0,0)):=(f.o.block _ (by have:=(ye.1 E.o).1;omega) (fun h=>by have:=h.2;have:=A.o.size;have:=R.o;have:=a.o;omega)).trans E.o
    have al:=(ye.1 F.o).1
    have af:=(ye.1 E.o).1
    have ae:=yb I;have T:=yb J
    have X:=yb (Q.o.res).len;have aj:=yb (Q.o.res).one;have Y:=yb (O.o.res).len;have am:=yb (O.o.res).one
    have aa:Hid (v3.heap.size≠D.heap.size):=yb (by have:=r.o.size;have:=s.o.size;have:=d.o.size;have:=f.o.size;omega)
    clear I J al af
    refine A0 (i:=8) (by kernel_rfl) rfl (fun K B=>?_)
    rw[yw (by rfl)]
    refine A9 35 _ _ rfl (v3.heap.size) 0 (by kernel_rfl) ps (by kernel_rfl) (p:=[]) (m:=A5) (q:=[]) (t:=35) (by simpa using ae.o) rfl (by rw[X.o];rfl) (AU (n:=26) (by kernel_rfl) X.o) aj.o ?_
    intro v5 U
    have M:Hid (Au v4 v5 (v3.heap.size) ps 35):=yb (by simpa using U)
    have an:Hid (BX (BD Bc (Bk+1)) W7.heap.size W7 v5):=yb (((g.o.mono a.o).trans (C.o.mono a.o)).wrote M.o (by have:=y.o.size;have:=a.o;omega))
    refine B.o _ _ (fun _=>an.o) ?_
    clear B K U
    refine A0 (i:=9) (by kernel_rfl) rfl (fun K B=>?_)
    rw[yw (by rfl)]
    refine A9 35 _ _ rfl (D.heap.size) 0 (by kernel_rfl) qs (by kernel_rfl) (p:=[]) (m:=A5) (q:=[]) (t:=35) (by have h:=(M.o.block _ aa.o.symm).trans T.o;simpa using h) rfl (by rw[Y.o];rfl) (AU (n:=26) (by kernel_rfl) Y.o) am.o ?_
    intro v6 a0
    have ak:Hid (Au v5 v6 (D.heap.size) qs 35):=yb (by simpa using a0)
    refine B.o _ _ (by intro h;cases h) ?_
    clear B K a0
    refine AF (by kernel_rfl) ?_
    refine NoPanic.normal ?_
    refine ay.o _ _ ?_
    refine Dt (P:=fun l=>Code.wp Try.prog _ _ ⟨l,[]⟩ v6) rfl ?_
    refine FE (ao.o v0 G G D v4 v5 v6 (v3.heap.size) (D.heap.size) ps qs Q.o O.o ac.o Z.o (yf _) a.o r.o.size s.o.size ((g.o.mono a.o).trans (C.o.mono a.o)) ag.o M.o ak.o aa.o (by have:=y.o.size;have:=a.o;omega) (by have:=A.o.size;have:=a.o;omega) (by have:=r.o.size;have:=s.o.size;have:=d.o.size;have:=f.o.size;have:=(ye.1 F.o).1;have:=(ye.1 E.o).1;omega) (by have:=r.o.size;have:=s.o.size;have:=d.o.size;have:=f.o.size;have:=(ye.1 F.o).1;have:=(ye.1 E.o).1;omega)) ⟨?_,?_,?_,?_⟩
    all_goals rfl
  ·go_simp
   obtain ⟨D,ai⟩:∃z:World,z=G.alloc (.cells A5.toArray 35):=⟨_,rfl⟩
   have F:Hid (D.heap[G.heap.size]?=some (.cells A5.toArray 35 (0,0))):=yb (by rw[ai];exact World.alloc_heap_new _ _)
   have s:Hid (BX (BD Bc (Bk+1)) G.heap.size G D):=yb (by rw[ai];exact (BX.refl _ _ _).alloc (yf _) _)
   have ap:=yb (ba.o.to H1.o H2.o (W':=D) (fun j hj=>by rw[ai];exact yF _ _ _ (by have:=hj.2;have:=r.o.size;have:=a.o;have:=R.o;omega)) s.o.size)
   change K _ (G.alloc (.cells A5.toArray 35))
   rw[<-ai]
   clear ai
   have A:Hid (BX (BD Bc (Bk+1)) v0.heap.size v0 D):=yb (r.o.trans (s.o.mono r.o.size))
   refine B.o _ _ (fun _=>((g.o.mono a.o).trans (A.o.mono a.o))) ?_
   clear B K
   refine DO (i:=5) (j:=7) (by kernel_rfl) rfl rfl (fun K B=>?_) (fun K B=>?_)
   ·go_simp
    refine (az.o D ((g.o.mono a.o).trans (A.o.mono a.o)) ap.o).mono ?_
    rintro e v3 ⟨qs,rfl,aw,au,aq⟩
    have O:=yb aw;have ah:=yb au;have d:Hid (BX (BD Bc (Bk+1)) D.heap.size D v3):=yb aq
    clear aw au aq
    have y:Hid (BX (BD Bc (Bk+1)) v0.heap.size v0 v3):=yb (A.o.trans (d.o.mono A.o.size))
    have H:Hid (BX (BD Bc (Bk+1)) G.heap.size G v3):=yb (s.o.trans (d.o.mono s.o.size))
    refine B.o _ _ (fun _=>((g.o.mono a.o).trans (y.o.mono a.o))) ?_
    clear B K
    refine A0 (i:=7) (by kernel_rfl) rfl (fun K B=>?_)
    go_simp
    obtain ⟨v4,ad⟩:∃z:World,z=v3.alloc (.cells A5.toArray 35):=⟨_,rfl⟩
    have E:Hid (v4.heap[v3.heap.size]?=some (.cells A5.toArray 35 (0,0))):=yb (by rw[ad];exact World.alloc_heap_new _ _)
    have f:Hid (BX (BD Bc (Bk+1)) v3.heap.size v3 v4):=yb (by rw[ad];exact (BX.refl _ _ _).alloc (yf _) _)
    have ag:=yb (ah.o.to H1.o H2.o (W':=v4) (fun j hj=>by rw[ad];exact yF _ _ _ (by have:=hj.2;have:=y.o.size;have:=a.o;have:=R.o;omega)) f.o.size)
    change K _ (v3.alloc (.cells A5.toArray 35))
    rw[<-ad]
    clear ad
    have C:Hid (BX (BD Bc (Bk+1)) v0.heap.size v0 v4):=yb (y.o.trans (f.o.mono y.o.size))
    have ac:Hid (BX (BD Bc (Bk+1)) G.heap.size G v4):=yb (H.o.trans (f.o.mono H.o.size))
    have Z:Hid (BX (BD Bc (Bk+1)) D.heap.size D v4):=yb (d.o.trans (f.o.mono d.o.size))
    refine B.o _ _ (fun _=>((g.o.mono a.o).trans (C.o.mono a.o))) ?_
    clear B K
    have I:v4.heap[G.heap.size]?=some (.cells A5.toArray 35 (0,0)):=(Z.o.block _ (by have:=(ye.1 F.o).1;omega) (fun h=>by have:=h.2;have:=r.o.size;have:=R.o;have:=a.o;omega)).trans F.o
    have J:v4.heap[v3.heap.size]?=some (.cells A5.toArray 35 (0,0)):=E.o
    have al:=(ye.1 F.o).1
    have af:=(ye.1 E.o).1
    have ae:=yb I;have T:=yb J
    have X:=yb (Q.o.res).len;have aj:=yb (Q.o.res).one;have Y:=yb (O.o.res).len;have am:=yb (O.o.res).one
    have aa:Hid (G.heap.size≠v3.heap.size):=yb (by have:=r.o.size;have:=s.o.size;have:=d.o.size;have:=f.o.size;omega)
    clear I J al af
    refine A0 (i:=8) (by kernel_rfl) rfl (fun K B=>?_)
    rw[yw (by rfl)]
    refine A9 35 _ _ rfl (G.heap.size) 0 (by kernel_rfl) ps (by kernel_rfl) (p:=[]) (m:=A5) (q:=[]) (t:=35) (by simpa using ae.o) rfl (by rw[X.o];rfl) (AU (n:=26) (by kernel_rfl) X.o) aj.o ?_
    intro v5 U
    have M:Hid (Au v4 v5 (G.heap.size) ps 35):=yb (by simpa using U)
    have an:Hid (BX (BD Bc (Bk+1)) W7.heap.size W7 v5):=yb (((g.o.mono a.o).trans (C.o.mono a.o)).wrote M.o (by have:=r.o.size;have:=a.o;omega))
    refine B.o _ _ (fun _=>an.o) ?_
    clear B K U
    refine A0 (i:=9) (by kernel_rfl) rfl (fun K B=>?_)
    rw[yw (by rfl)]
    refine A9 35 _ _ rfl (v3.heap.size) 0 (by kernel_rfl) qs (by kernel_rfl) (p:=[]) (m:=A5) (q:=[]) (t:=35) (by have h:=(M.o.block _ aa.o.symm).trans T.o;simpa using h) rfl (by rw[Y.o];rfl) (AU (n:=26) (by kernel_rfl) Y.o) am.o ?_
    intro v6 a0
    have ak:Hid (Au v5 v6 (v3.heap.size) qs 35):=yb (by simpa using a0)
    refine B.o _ _ (by intro h;cases h) ?_
    clear B K a0
    refine AF (by kernel_rfl) ?_
    refine NoPanic.normal ?_
    refine ay.o _ _ ?_
    refine Dt (P:=fun l=>Code.wp Try.prog _ _ ⟨l,[]⟩ v6) rfl ?_
    refine FE (ao.o v0 G D v3 v4 v5 v6 (G.heap.size) (v3.heap.size) ps qs Q.o O.o ac.o f.o s.o.size a.o r.o.size d.o.size ((g.o.mono a.o).trans (C.o.mono a.o)) ag.o M.o ak.o aa.o (by have:=r.o.size;have:=a.o;omega) (by have:=y.o.size;have:=a.o;omega) (by have:=r.o.size;have:=s.o.size;have:=d.o.size;have:=f.o.size;have:=(ye.1 F.o).1;have:=(ye.1 E.o).1;omega) (by have:=r.o.size;have:=s.o.size;have:=d.o.size;have:=f.o.size;have:=(ye.1 F.o).1;have:=(ye.1 E.o).1;omega)) ⟨?_,?_,?_,?_⟩
    all_goals rfl
   ·go_simp
    obtain ⟨v3,S⟩:∃z:World,z=D.alloc (.cells A5.toArray 35):=⟨_,rfl⟩
    have E:Hid (v3.heap[D.heap.size]?=some (.cells A5.toArray 35 (0,0))):=yb (by rw[S];exact World.alloc_heap_new _ _)
    have d:Hid (BX (BD Bc (Bk+1)) D.heap.size D v3):=yb (by rw[S];exact (BX.refl _ _ _).alloc (yf _) _)
    have ah:=yb (ap.o.to H1.o H2.o (W':=v3) (fun j hj=>by rw[S];exact yF _ _ _ (by have:=hj.2;have:=A.o.size;have:=a.o;have:=R.o;omega)) d.o.size)
    change K _ (D.alloc (.cells A5.toArray 35))
    rw[<-S]
    clear S
    have y:Hid (BX (BD Bc (Bk+1)) v0.heap.size v0 v3):=yb (A.o.trans (d.o.mono A.o.size))
    have H:Hid (BX (BD Bc (Bk+1)) G.heap.size G v3):=yb (s.o.trans (d.o.mono s.o.size))
    refine B.o _ _ (fun _=>((g.o.mono a.o).trans (y.o.mono a.o))) ?_
    clear B K
    refine A0 (i:=5) (by kernel_rfl) rfl (fun K B=>?_)
    go_simp
    refine (az.o v3 ((g.o.mono a.o).trans (y.o.mono a.o)) ah.o).mono ?_
    rintro e v4 ⟨qs,rfl,ar,ax,av⟩
    have O:=yb ar;have ag:=yb ax;have f:Hid (BX (BD Bc (Bk+1)) v3.heap.size v3 v4):=yb av
    clear ar ax av
    have C:Hid (BX (BD Bc (Bk+1)) v0.heap.size v0 v4):=yb (y.o.trans (f.o.mono y.o.size))
    have ac:Hid (BX (BD Bc (Bk+1)) G.heap.size G v4):=yb (H.o.trans (f.o.mono H.o.size))
    have Z:Hid (BX (BD Bc (Bk+1)) D.heap.size D v4):=yb (d.o.trans (f.o.mono d.o.size))
    refine B.o _ _ (fun _=>((g.o.mono a.o).trans (C.o.mono a.o))) ?_
    clear B K
    have I:v4.heap[G.heap.size]?=some (.cells A5.toArray 35 (0,0)):=(Z.o.block _ (by have:=(ye.1 F.o).1;omega) (fun h=>by have:=h.2;have:=r.o.size;have:=R.o;have:=a.o;omega)).trans F.o
    have J:v4.heap[D.heap.size]?=some (.cells A5.toArray 35 (0,0)):=(f.o.block _ (by have:=(ye.1 E.o).1;omega) (fun h=>by have:=h.2;have:=A.o.size;have:=R.o;have:=a.o;omega)).trans E.o
    have al:=(ye.1 F.o).1
    have af:=(ye.1 E.o).1
    have ae:=yb I;have T:=yb J
    have X:=yb (Q.o.res).len;have aj:=yb (Q.o.res).one;have Y:=yb (O.o.res).len;have am:=yb (O.o.res).one
    have aa:Hid (G.heap.size≠D.heap.size):=yb (by have:=r.o.size;have:=s.o.size;have:=d.o.size;have:=f.o.size;omega)
    clear I J al af
    refine A0 (i:=8) (by kernel_rfl) rfl (fun K B=>?_)
    rw[yw (by rfl)]
    refine A9 35 _ _ rfl (G.heap.size) 0 (by kernel_rfl) ps (by kernel_rfl) (p:=[]) (m:=A5) (q:=[]) (t:=35) (by simpa using ae.o) rfl (by rw[X.o];rfl) (AU (n:=26) (by kernel_rfl) X.o) aj.o ?_
    intro v5 U
    have M:Hid (Au v4 v5 (G.heap.size) ps 35):=yb (by simpa using U)
    have an:Hid (BX (BD Bc (Bk+1)) W7.heap.size W7 v5):=yb (((g.o.mono a.o).trans (C.o.mono a.o)).wrote M.o (by have:=r.o.size;have:=a.o;omega))
    refine B.o _ _ (fun _=>an.o) ?_
    clear B K U
    refine A0 (i:=9) (by kernel_rfl) rfl (fun K B=>?_)
    rw[yw (by rfl)]
    refine A9 35 _ _ rfl (D.heap.size) 0 (by kernel_rfl) qs (by kernel_rfl) (p:=[]) (m:=A5) (q:=[]) (t:=35) (by have h:=(M.o.block _ aa.o.symm).trans T.o;simpa using h) rfl (by rw[Y.o];rfl) (AU (n:=26) (by kernel_rfl) Y.o) am.o ?_
    intro v6 a0
    have ak:Hid (Au v5 v6 (D.heap.size) qs 35):=yb (by simpa using a0)
    refine B.o _ _ (by intro h;cases h) ?_
    clear B K a0
    refine AF (by kernel_rfl) ?_
    refine NoPanic.normal ?_
    refine ay.o _ _ ?_
    refine Dt (P:=fun l=>Code.wp Try.prog _ _ ⟨l,[]⟩ v6) rfl ?_
    refine FE (ao.o v0 G v3 v4 v4 v5 v6 (G.heap.size) (D.heap.size) ps qs Q.o O.o ac.o (BX.refl _ _ _) H.o.size a.o r.o.size f.o.size ((g.o.mono a.o).trans (C.o.mono a.o)) ag.o M.o ak.o aa.o (by have:=r.o.size;have:=a.o;omega) (by have:=A.o.size;have:=a.o;omega) (by have:=r.o.size;have:=s.o.size;have:=d.o.size;have:=f.o.size;have:=(ye.1 F.o).1;have:=(ye.1 E.o).1;omega) (by have:=r.o.size;have:=s.o.size;have:=d.o.size;have:=f.o.size;have:=(ye.1 F.o).1;have:=(ye.1 E.o).1;omega)) ⟨?_,?_,?_,?_⟩
    all_goals rfl
  ·go_simp
   obtain ⟨D,ai⟩:∃z:World,z=G.alloc (.cells A5.toArray 35):=⟨_,rfl⟩
   have E:Hid (D.heap[G.heap.size]?=some (.cells A5.toArray 35 (0,0))):=yb (by rw[ai];exact World.alloc_heap_new _ _)
   have s:Hid (BX (BD Bc (Bk+1)) G.heap.size G D):=yb (by rw[ai];exact (BX.refl _ _ _).alloc (yf _) _)
   have ap:=yb (ba.o.to H1.o H2.o (W':=D) (fun j hj=>by rw[ai];exact yF _ _ _ (by have:=hj.2;have:=r.o.size;have:=a.o;have:=R.o;omega)) s.o.size)
   change K _ (G.alloc (.cells A5.toArray 35))
   rw[<-ai]
   clear ai
   have A:Hid (BX (BD Bc (Bk+1)) v0.heap.size v0 D):=yb (r.o.trans (s.o.mono r.o.size))
   refine B.o _ _ (fun _=>((g.o.mono a.o).trans (A.o.mono a.o))) ?_
   clear B K
   refine DO (i:=5) (j:=6) (by kernel_rfl) rfl rfl (fun K B=>?_) (fun K B=>?_)
   ·go_simp
    refine (az.o D ((g.o.mono a.o).trans (A.o.mono a.o)) ap.o).mono ?_
    rintro e v3 ⟨qs,rfl,aw,au,aq⟩
    have O:=yb aw;have ah:=yb au;have d:Hid (BX (BD Bc (Bk+1)) D.heap.size D v3):=yb aq
    clear aw au aq
    have y:Hid (BX (BD Bc (Bk+1)) v0.heap.size v0 v3):=yb (A.o.trans (d.o.mono A.o.size))
    have H:Hid (BX (BD Bc (Bk+1)) G.heap.size G v3):=yb (s.o.trans (d.o.mono s.o.size))
    refine B.o _ _ (fun _=>((g.o.mono a.o).trans (y.o.mono a.o))) ?_
    clear B K
    refine A0 (i:=6) (by kernel_rfl) rfl (fun K B=>?_)
    go_simp
    obtain ⟨v4,ad⟩:∃z:World,z=v3.alloc (.cells A5.toArray 35):=⟨_,rfl⟩
    have F:Hid (v4.heap[v3.heap.size]?=some (.cells A5.toArray 35 (0,0))):=yb (by rw[ad];exact World.alloc_heap_new _ _)
    have f:Hid (BX (BD Bc (Bk+1)) v3.heap.size v3 v4):=yb (by rw[ad];exact (BX.refl _ _ _).alloc (yf _) _)
    have ag:=yb (ah.o.to H1.o H2.o (W':=v4) (fun j hj=>by rw[ad];exact yF _ _ _ (by have:=hj.2;have:=y.o.size;have:=a.o;have:=R.o;omega)) f.o.size)
    change K _ (v3.alloc (.cells A5.toArray 35))
    rw[<-ad]
    clear ad
    have C:Hid (BX (BD Bc (Bk+1)) v0.heap.size v0 v4):=yb (y.o.trans (f.o.mono y.o.size))
    have ac:Hid (BX (BD Bc (Bk+1)) G.heap.size G v4):=yb (H.o.trans (f.o.mono H.o.size))
    have Z:Hid (BX (BD Bc (Bk+1)) D.heap.size D v4):=yb (d.o.trans (f.o.mono d.o.size))
    refine B.o _ _ (fun _=>((g.o.mono a.o).trans (C.o.mono a.o))) ?_
    clear B K
    have I:v4.heap[v3.heap.size]?=some (.cells A5.toArray 35 (0,0)):=F.o
    have J:v4.heap[G.heap.size]?=some (.cells A5.toArray 35 (0,0)):=(Z.o.block _ (by have:=(ye.1 E.o).1;omega) (fun h=>by have:=h.2;have:=r.o.size;have:=R.o;have:=a.o;omega)).trans E.o
    have al:=(ye.1 F.o).1
    have af:=(ye.1 E.o).1
    have ae:=yb I;have T:=yb J
    have X:=yb (Q.o.res).len;have aj:=yb (Q.o.res).one;have Y:=yb (O.o.res).len;have am:=yb (O.o.res).one
    have aa:Hid (v3.heap.size≠G.heap.size):=yb (by have:=r.o.size;have:=s.o.size;have:=d.o.size;have:=f.o.size;omega)
    clear I J al af
    refine A0 (i:=8) (by kernel_rfl) rfl (fun K B=>?_)
    rw[yw (by rfl)]
    refine A9 35 _ _ rfl (v3.heap.size) 0 (by kernel_rfl) ps (by kernel_rfl) (p:=[]) (m:=A5) (q:=[]) (t:=35) (by simpa using ae.o) rfl (by rw[X.o];rfl) (AU (n:=26) (by kernel_rfl) X.o) aj.o ?_
    intro v5 U
    have M:Hid (Au v4 v5 (v3.heap.size) ps 35):=yb (by simpa using U)
    have an:Hid (BX (BD Bc (Bk+1)) W7.heap.size W7 v5):=yb (((g.o.mono a.o).trans (C.o.mono a.o)).wrote M.o (by have:=y.o.size;have:=a.o;omega))
    refine B.o _ _ (fun _=>an.o) ?_
    clear B K U
    refine A0 (i:=9) (by kernel_rfl) rfl (fun K B=>?_)
    rw[yw (by rfl)]
    refine A9 35 _ _ rfl (G.heap.size) 0 (by kernel_rfl) qs (by kernel_rfl) (p:=[]) (m:=A5) (q:=[]) (t:=35) (by have h:=(M.o.block _ aa.o.symm).trans T.o;simpa using h) rfl (by rw[Y.o];rfl) (AU (n:=26) (by kernel_rfl) Y.o) am.o ?_
    intro v6 a0
    have ak:Hid (Au v5 v6 (G.heap.size) qs 35):=yb (by simpa using a0)
    refine B.o _ _ (by intro h;cases h) ?_
    clear B K a0
    refine AF (by kernel_rfl) ?_
    refine NoPanic.normal ?_
    refine ay.o _ _ ?_
    refine Dt (P:=fun l=>Code.wp Try.prog _ _ ⟨l,[]⟩ v6) rfl ?_
    refine FE (ao.o v0 G D v3 v4 v5 v6 (v3.heap.size) (G.heap.size) ps qs Q.o O.o ac.o f.o s.o.size a.o r.o.size d.o.size ((g.o.mono a.o).trans (C.o.mono a.o)) ag.o M.o ak.o aa.o (by have:=y.o.size;have:=a.o;omega) (by have:=r.o.size;have:=a.o;omega) (by have:=r.o.size;have:=s.o.size;have:=d.o.size;have:=f.o.size;have:=(ye.1 F.o).1;have:=(ye.1 E.o).1;omega) (by have:=r.o.size;have:=s.o.size;have:=d.o.size;have:=f.o.size;have:=(ye.1 F.o).1;have:=(ye.1 E.o).1;omega)) ⟨?_,?_,?_,?_⟩
    all_goals rfl
   ·go_simp
    obtain ⟨v3,S⟩:∃z:World,z=D.alloc (.cells A5.toArray 35):=⟨_,rfl⟩
    have F:Hid (v3.heap[D.heap.size]?=some (.cells A5.toArray 35 (0,0))):=yb (by rw[S];exact World.alloc_heap_new _ _)
    have d:Hid (BX (BD Bc (Bk+1)) D.heap.size D v3):=yb (by rw[S];exact (BX.refl _ _ _).alloc (yf _) _)
    have ah:=yb (ap.o.to H1.o H2.o (W':=v3) (fun j hj=>by rw[S];exact yF _ _ _ (by have:=hj.2;have:=A.o.size;have:=a.o;have:=R.o;omega)) d.o.size)
    change K _ (D.alloc (.cells A5.toArray 35))
    rw[<-S]
    clear S
    have y:Hid (BX (BD Bc (Bk+1)) v0.heap.size v0 v3):=yb (A.o.trans (d.o.mono A.o.size))
    have H:Hid (BX (BD Bc (Bk+1)) G.heap.size G v3):=yb (s.o.trans (d.o.mono s.o.size))
    refine B.o _ _ (fun _=>((g.o.mono a.o).trans (y.o.mono a.o))) ?_
    clear B K
    refine A0 (i:=5) (by kernel_rfl) rfl (fun K B=>?_)
    go_simp
    refine (az.o v3 ((g.o.mono a.o).trans (y.o.mono a.o)) ah.o).mono ?_
    rintro e v4 ⟨qs,rfl,ar,ax,av⟩
    have O:=yb ar;have ag:=yb ax;have f:Hid (BX (BD Bc (Bk+1)) v3.heap.size v3 v4):=yb av
    clear ar ax av
    have C:Hid (BX (BD Bc (Bk+1)) v0.heap.size v0 v4):=yb (y.o.trans (f.o.mono y.o.size))
    have ac:Hid (BX (BD Bc (Bk+1)) G.heap.size G v4):=yb (H.o.trans (f.o.mono H.o.size))
    have Z:Hid (BX (BD Bc (Bk+1)) D.heap.size D v4):=yb (d.o.trans (f.o.mono d.o.size))
    refine B.o _ _ (fun _=>((g.o.mono a.o).trans (C.o.mono a.o))) ?_
    clear B K
    have I:v4.heap[D.heap.size]?=some (.cells A5.toArray 35 (0,0)):=(f.o.block _ (by have:=(ye.1 F.o).1;omega) (fun h=>by have:=h.2;have:=A.o.size;have:=R.o;have:=a.o;omega)).trans F.o
    have J:v4.heap[G.heap.size]?=some (.cells A5.toArray 35 (0,0)):=(Z.o.block _ (by have:=(ye.1 E.o).1;omega) (fun h=>by have:=h.2;have:=r.o.size;have:=R.o;have:=a.o;omega)).trans E.o
    have al:=(ye.1 F.o).1
    have af:=(ye.1 E.o).1
    have ae:=yb I;have T:=yb J
    have X:=yb (Q.o.res).len;have aj:=yb (Q.o.res).one;have Y:=yb (O.o.res).len;have am:=yb (O.o.res).one
    have aa:Hid (D.heap.size≠G.heap.size):=yb (by have:=r.o.size;have:=s.o.size;have:=d.o.size;have:=f.o.size;omega)
    clear I J al af
    refine A0 (i:=8) (by kernel_rfl) rfl (fun K B=>?_)
    rw[yw (by rfl)]
    refine A9 35 _ _ rfl (D.heap.size) 0 (by kernel_rfl) ps (by kernel_rfl) (p:=[]) (m:=A5) (q:=[]) (t:=35) (by simpa using ae.o) rfl (by rw[X.o];rfl) (AU (n:=26) (by kernel_rfl) X.o) aj.o ?_
    intro v5 U
    have M:Hid (Au v4 v5 (D.heap.size) ps 35):=yb (by simpa using U)
    have an:Hid (BX (BD Bc (Bk+1)) W7.heap.size W7 v5):=yb (((g.o.mono a.o).trans (C.o.mono a.o)).wrote M.o (by have:=A.o.size;have:=a.o;omega))
    refine B.o _ _ (fun _=>an.o) ?_
    clear B K U
    refine A0 (i:=9) (by kernel_rfl) rfl (fun K B=>?_)
    rw[yw (by rfl)]
    refine A9 35 _ _ rfl (G.heap.size) 0 (by kernel_rfl) qs (by kernel_rfl) (p:=[]) (m:=A5) (q:=[]) (t:=35) (by have h:=(M.o.block _ aa.o.symm).trans T.o;simpa using h) rfl (by rw[Y.o];rfl) (AU (n:=26) (by kernel_rfl) Y.o) am.o ?_
    intro v6 a0
    have ak:Hid (Au v5 v6 (G.heap.size) qs 35):=yb (by simpa using a0)
    refine B.o _ _ (by intro h;cases h) ?_
    clear B K a0
    refine AF (by kernel_rfl) ?_
    refine NoPanic.normal ?_
    refine ay.o _ _ ?_
    refine Dt (P:=fun l=>Code.wp Try.prog _ _ ⟨l,[]⟩ v6) rfl ?_
    refine FE (ao.o v0 G v3 v4 v4 v5 v6 (D.heap.size) (G.heap.size) ps qs Q.o O.o ac.o (BX.refl _ _ _) H.o.size a.o r.o.size f.o.size ((g.o.mono a.o).trans (C.o.mono a.o)) ag.o M.o ak.o aa.o (by have:=A.o.size;have:=a.o;omega) (by have:=r.o.size;have:=a.o;omega) (by have:=r.o.size;have:=s.o.size;have:=d.o.size;have:=f.o.size;have:=(ye.1 F.o).1;have:=(ye.1 E.o).1;omega) (by have:=r.o.size;have:=s.o.size;have:=d.o.size;have:=f.o.size;have:=(ye.1 F.o).1;have:=(ye.1 E.o).1;omega)) ⟨?_,?_,?_,?_⟩
    all_goals rfl
 ·go_simp
  obtain ⟨G,b9⟩:∃z:World,z=v0.alloc (.cells A5.toArray 35):=⟨_,rfl⟩
  have F:Hid (G.heap[v0.heap.size]?=some (.cells A5.toArray 35 (0,0))):=yb (by rw[b9];exact World.alloc_heap_new _ _)
  have r:Hid (BX (BD Bc (Bk+1)) v0.heap.size v0 G):=yb (by rw[b9];exact (BX.refl _ _ _).alloc (yf _) _)
  have ba:=yb (bi.o.to H1.o H2.o (W':=G) (fun j hj=>by rw[b9];exact yF _ _ _ (by have:=hj.2;have:=g.o.size;have:=a.o;have:=R.o;omega)) r.o.size)
  change K _ (v0.alloc (.cells A5.toArray 35))
  rw[<-b9]
  clear b9
  refine B.o _ _ (fun _=>((g.o.mono a.o).trans (r.o.mono a.o))) ?_
  clear B K
  refine DO (i:=2) (j:=7) (by kernel_rfl) rfl rfl (fun K B=>?_) (fun K B=>?_)
  ·go_simp
   refine (bg.o G ((g.o.mono a.o).trans (r.o.mono a.o)) ba.o).mono ?_
   rintro e D ⟨ps,rfl,bb,bd,be⟩
   have Q:=yb bb;have ap:=yb bd;have s:Hid (BX (BD Bc (Bk+1)) G.heap.size G D):=yb be
   clear bb bd be
   have A:Hid (BX (BD Bc (Bk+1)) v0.heap.size v0 D):=yb (r.o.trans (s.o.mono r.o.size))
   refine B.o _ _ (fun _=>((g.o.mono a.o).trans (A.o.mono a.o))) ?_
   clear B K
   refine DO (i:=5) (j:=7) (by kernel_rfl) rfl rfl (fun K B=>?_) (fun K B=>?_)
   ·go_simp
    refine (az.o D ((g.o.mono a.o).trans (A.o.mono a.o)) ap.o).mono ?_
    rintro e v3 ⟨qs,rfl,aw,au,aq⟩
    have O:=yb aw;have ah:=yb au;have d:Hid (BX (BD Bc (Bk+1)) D.heap.size D v3):=yb aq
    clear aw au aq
    have y:Hid (BX (BD Bc (Bk+1)) v0.heap.size v0 v3):=yb (A.o.trans (d.o.mono A.o.size))
    have H:Hid (BX (BD Bc (Bk+1)) G.heap.size G v3):=yb (s.o.trans (d.o.mono s.o.size))
    refine B.o _ _ (fun _=>((g.o.mono a.o).trans (y.o.mono a.o))) ?_
    clear B K
    refine A0 (i:=7) (by kernel_rfl) rfl (fun K B=>?_)
    go_simp
    obtain ⟨v4,ad⟩:∃z:World,z=v3.alloc (.cells A5.toArray 35):=⟨_,rfl⟩
    have E:Hid (v4.heap[v3.heap.size]?=some (.cells A5.toArray 35 (0,0))):=yb (by rw[ad];exact World.alloc_heap_new _ _)
    have f:Hid (BX (BD Bc (Bk+1)) v3.heap.size v3 v4):=yb (by rw[ad];exact (BX.refl _ _ _).alloc (yf _) _)
    have ag:=yb (ah.o.to H1.o H2.o (W':=v4) (fun j hj=>by rw[ad];exact yF _ _ _ (by have:=hj.2;have:=y.o.size;have:=a.o;have:=R.o;omega)) f.o.size)
    change K _ (v3.alloc (.cells A5.toArray 35))
    rw[<-ad]
    clear ad
    have C:Hid (BX (BD Bc (Bk+1)) v0.heap.size v0 v4):=yb (y.o.trans (f.o.mono y.o.size))
    have ac:Hid (BX (BD Bc (Bk+1)) G.heap.size G v4):=yb (H.o.trans (f.o.mono H.o.size))
    have Z:Hid (BX (BD Bc (Bk+1)) D.heap.size D v4):=yb (d.o.trans (f.o.mono d.o.size))
    refine B.o _ _ (fun _=>((g.o.mono a.o).trans (C.o.mono a.o))) ?_
    clear B K
    have I:v4.heap[v0.heap.size]?=some (.cells A5.toArray 35 (0,0)):=(ac.o.block _ (by have:=(ye.1 F.o).1;omega) (fun h=>by have:=h.2;have:=g.o.size;have:=R.o;have:=a.o;omega)).trans F.o
    have J:v4.heap[v3.heap.size]?=some (.cells A5.toArray 35 (0,0)):=E.o
    have al:=(ye.1 F.o).1
    have af:=(ye.1 E.o).1
    have ae:=yb I;have T:=yb J
    have X:=yb (Q.o.res).len;have aj:=yb (Q.o.res).one;have Y:=yb (O.o.res).len;have am:=yb (O.o.res).one
    have aa:Hid (v0.heap.size≠v3.heap.size):=yb (by have:=r.o.size;have:=s.o.size;have:=d.o.size;have:=f.o.size;omega)
    clear I J al af
    refine A0 (i:=8) (by kernel_rfl) rfl (fun K B=>?_)
    rw[yw (by rfl)]
    refine A9 35 _ _ rfl (v0.heap.size) 0 (by kernel_rfl) ps (by kernel_rfl) (p:=[]) (m:=A5) (q:=[]) (t:=35) (by simpa using ae.o) rfl (by rw[X.o];rfl) (AU (n:=26) (by kernel_rfl) X.o) aj.o ?_
    intro v5 U
    have M:Hid (Au v4 v5 (v0.heap.size) ps 35):=yb (by simpa using U)
    have an:Hid (BX (BD Bc (Bk+1)) W7.heap.size W7 v5):=yb (((g.o.mono a.o).trans (C.o.mono a.o)).wrote M.o (by have:=g.o.size;have:=a.o;omega))
    refine B.o _ _ (fun _=>an.o) ?_
    clear B K U
    refine A0 (i:=9) (by kernel_rfl) rfl (fun K B=>?_)
    rw[yw (by rfl)]
    refine A9 35 _ _ rfl (v3.heap.size) 0 (by kernel_rfl) qs (by kernel_rfl) (p:=[]) (m:=A5) (q:=[]) (t:=35) (by have h:=(M.o.block _ aa.o.symm).trans T.o;simpa using h) rfl (by rw[Y.o];rfl) (AU (n:=26) (by kernel_rfl) Y.o) am.o ?_
    intro v6 a0
    have ak:Hid (Au v5 v6 (v3.heap.size) qs 35):=yb (by simpa using a0)
    refine B.o _ _ (by intro h;cases h) ?_
    clear B K a0
    refine AF (by kernel_rfl) ?_
    refine NoPanic.normal ?_
    refine ay.o _ _ ?_
    refine Dt (P:=fun l=>Code.wp Try.prog _ _ ⟨l,[]⟩ v6) rfl ?_
    refine FE (ao.o G D D v3 v4 v5 v6 (v0.heap.size) (v3.heap.size) ps qs Q.o O.o Z.o f.o (yf _) (yl a.o r.o.size) s.o.size d.o.size ((g.o.mono a.o).trans (C.o.mono a.o)) ag.o M.o ak.o aa.o (by have:=g.o.size;have:=a.o;omega) (by have:=y.o.size;have:=a.o;omega) (by have:=r.o.size;have:=s.o.size;have:=d.o.size;have:=f.o.size;have:=(ye.1 F.o).1;have:=(ye.1 E.o).1;omega) (by have:=r.o.size;have:=s.o.size;have:=d.o.size;have:=f.o.size;have:=(ye.1 F.o).1;have:=(ye.1 E.o).1;omega)) ⟨?_,?_,?_,?_⟩
    all_goals rfl
   ·go_simp
    obtain ⟨v3,S⟩:∃z:World,z=D.alloc (.cells A5.toArray 35):=⟨_,rfl⟩
    have E:Hid (v3.heap[D.heap.size]?=some (.cells A5.toArray 35 (0,0))):=yb (by rw[S];exact World.alloc_heap_new _ _)
    have d:Hid (BX (BD Bc (Bk+1)) D.heap.size D v3):=yb (by rw[S];exact (BX.refl _ _ _).alloc (yf _) _)
    have ah:=yb (ap.o.to H1.o H2.o (W':=v3) (fun j hj=>by rw[S];exact yF _ _ _ (by have:=hj.2;have:=A.o.size;have:=a.o;have:=R.o;omega)) d.o.size)
    change K _ (D.alloc (.cells A5.toArray 35))
    rw[<-S]
    clear S
    have y:Hid (BX (BD Bc (Bk+1)) v0.heap.size v0 v3):=yb (A.o.trans (d.o.mono A.o.size))
    have H:Hid (BX (BD Bc (Bk+1)) G.heap.size G v3):=yb (s.o.trans (d.o.mono s.o.size))
    refine B.o _ _ (fun _=>((g.o.mono a.o).trans (y.o.mono a.o))) ?_
    clear B K
    refine A0 (i:=5) (by kernel_rfl) rfl (fun K B=>?_)
    go_simp
    refine (az.o v3 ((g.o.mono a.o).trans (y.o.mono a.o)) ah.o).mono ?_
    rintro e v4 ⟨qs,rfl,ar,ax,av⟩
    have O:=yb ar;have ag:=yb ax;have f:Hid (BX (BD Bc (Bk+1)) v3.heap.size v3 v4):=yb av
    clear ar ax av
    have C:Hid (BX (BD Bc (Bk+1)) v0.heap.size v0 v4):=yb (y.o.trans (f.o.mono y.o.size))
    have ac:Hid (BX (BD Bc (Bk+1)) G.heap.size G v4):=yb (H.o.trans (f.o.mono H.o.size))
    have Z:Hid (BX (BD Bc (Bk+1)) D.heap.size D v4):=yb (d.o.trans (f.o.mono d.o.size))
    refine B.o _ _ (fun _=>((g.o.mono a.o).trans (C.o.mono a.o))) ?_
    clear B K
    have I:v4.heap[v0.heap.size]?=some (.cells A5.toArray 35 (0,0)):=(ac.o.block _ (by have:=(ye.1 F.o).1;omega) (fun h=>by have:=h.2;have:=g.o.size;have:=R.o;have:=a.o;omega)).trans F.o
    have J:v4.heap[D.heap.size]?=some (.cells A5.toArray 35 (0,0)):=(f.o.block _ (by have:=(ye.1 E.o).1;omega) (fun h=>by have:=h.2;have:=A.o.size;have:=R.o;have:=a.o;omega)).trans E.o
    have al:=(ye.1 F.o).1
    have af:=(ye.1 E.o).1
    have ae:=yb I;have T:=yb J
    have X:=yb (Q.o.res).len;have aj:=yb (Q.o.res).one;have Y:=yb (O.o.res).len;have am:=yb (O.o.res).one
    have aa:Hid (v0.heap.size≠D.heap.size):=yb (by have:=r.o.size;have:=s.o.size;have:=d.o.size;have:=f.o.size;omega)
    clear I J al af
    refine A0 (i:=8) (by kernel_rfl) rfl (fun K B=>?_)
    rw[yw (by rfl)]
    refine A9 35 _ _ rfl (v0.heap.size) 0 (by kernel_rfl) ps (by kernel_rfl) (p:=[]) (m:=A5) (q:=[]) (t:=35) (by simpa using ae.o) rfl (by rw[X.o];rfl) (AU (n:=26) (by kernel_rfl) X.o) aj.o ?_
    intro v5 U
    have M:Hid (Au v4 v5 (v0.heap.size) ps 35):=yb (by simpa using U)
    have an:Hid (BX (BD Bc (Bk+1)) W7.heap.size W7 v5):=yb (((g.o.mono a.o).trans (C.o.mono a.o)).wrote M.o (by have:=g.o.size;have:=a.o;omega))
    refine B.o _ _ (fun _=>an.o) ?_
    clear B K U
    refine A0 (i:=9) (by kernel_rfl) rfl (fun K B=>?_)
    rw[yw (by rfl)]
    refine A9 35 _ _ rfl (D.heap.size) 0 (by kernel_rfl) qs (by kernel_rfl) (p:=[]) (m:=A5) (q:=[]) (t:=35) (by have h:=(M.o.block _ aa.o.symm).trans T.o;simpa using h) rfl (by rw[Y.o];rfl) (AU (n:=26) (by kernel_rfl) Y.o) am.o ?_
    intro v6 a0
    have ak:Hid (Au v5 v6 (D.heap.size) qs 35):=yb (by simpa using a0)
    refine B.o _ _ (by intro h;cases h) ?_
    clear B K a0
    refine AF (by kernel_rfl) ?_
    refine NoPanic.normal ?_
    refine ay.o _ _ ?_
    refine Dt (P:=fun l=>Code.wp Try.prog _ _ ⟨l,[]⟩ v6) rfl ?_
    refine FE (ao.o G D v3 v4 v4 v5 v6 (v0.heap.size) (D.heap.size) ps qs Q.o O.o Z.o (BX.refl _ _ _) d.o.size (yl a.o r.o.size) s.o.size f.o.size ((g.o.mono a.o).trans (C.o.mono a.o)) ag.o M.o ak.o aa.o (by have:=g.o.size;have:=a.o;omega) (by have:=A.o.size;have:=a.o;omega) (by have:=r.o.size;have:=s.o.size;have:=d.o.size;have:=f.o.size;have:=(ye.1 F.o).1;have:=(ye.1 E.o).1;omega) (by have:=r.o.size;have:=s.o.size;have:=d.o.size;have:=f.o.size;have:=(ye.1 F.o).1;have:=(ye.1 E.o).1;omega)) ⟨?_,?_,?_,?_⟩
    all_goals rfl
  ·go_simp
   obtain ⟨D,ai⟩:∃z:World,z=G.alloc (.cells A5.toArray 35):=⟨_,rfl⟩
   have E:Hid (D.heap[G.heap.size]?=some (.cells A5.toArray 35 (0,0))):=yb (by rw[ai];exact World.alloc_heap_new _ _)
   have s:Hid (BX (BD Bc (Bk+1)) G.heap.size G D):=yb (by rw[ai];exact (BX.refl _ _ _).alloc (yf _) _)
   have ap:=yb (ba.o.to H1.o H2.o (W':=D) (fun j hj=>by rw[ai];exact yF _ _ _ (by have:=hj.2;have:=r.o.size;have:=a.o;have:=R.o;omega)) s.o.size)
   change K _ (G.alloc (.cells A5.toArray 35))
   rw[<-ai]
   clear ai
   have A:Hid (BX (BD Bc (Bk+1)) v0.heap.size v0 D):=yb (r.o.trans (s.o.mono r.o.size))
   refine B.o _ _ (fun _=>((g.o.mono a.o).trans (A.o.mono a.o))) ?_
   clear B K
   refine A0 (i:=2) (by kernel_rfl) rfl (fun K B=>?_)
   go_simp
   refine (bg.o D ((g.o.mono a.o).trans (A.o.mono a.o)) ap.o).mono ?_
   rintro e v3 ⟨ps,rfl,aw,au,aq⟩
   have Q:=yb aw;have ah:=yb au;have d:Hid (BX (BD Bc (Bk+1)) D.heap.size D v3):=yb aq
   clear aw au aq
   have y:Hid (BX (BD Bc (Bk+1)) v0.heap.size v0 v3):=yb (A.o.trans (d.o.mono A.o.size))
   have H:Hid (BX (BD Bc (Bk+1)) G.heap.size G v3):=yb (s.o.trans (d.o.mono s.o.size))
   refine B.o _ _ (fun _=>((g.o.mono a.o).trans (y.o.mono a.o))) ?_
   clear B K
   refine A0 (i:=5) (by kernel_rfl) rfl (fun K B=>?_)
   go_simp
   refine (az.o v3 ((g.o.mono a.o).trans (y.o.mono a.o)) ah.o).mono ?_
   rintro e v4 ⟨qs,rfl,ar,ax,av⟩
   have O:=yb ar;have ag:=yb ax;have f:Hid (BX (BD Bc (Bk+1)) v3.heap.size v3 v4):=yb av
   clear ar ax av
   have C:Hid (BX (BD Bc (Bk+1)) v0.heap.size v0 v4):=yb (y.o.trans (f.o.mono y.o.size))
   have ac:Hid (BX (BD Bc (Bk+1)) G.heap.size G v4):=yb (H.o.trans (f.o.mono H.o.size))
   have Z:Hid (BX (BD Bc (Bk+1)) D.heap.size D v4):=yb (d.o.trans (f.o.mono d.o.size))
   refine B.o _ _ (fun _=>((g.o.mono a.o).trans (C.o.mono a.o))) ?_
   clear B K
   have I:v4.heap[v0.heap.size]?=some (.cells A5.toArray 35 (0,0)):=(ac.o.block _ (by have:=(ye.1 F.o).1;omega) (fun h=>by have:=h.2;have:=g.o.size;have:=R.o;have:=a.o;omega)).trans F.o
   have J:v4.heap[G.heap.size]?=some (.cells A5.toArray 35 (0,0)):=(Z.o.block _ (by have:=(ye.1 E.o).1;omega) (fun h=>by have:=h.2;have:=r.o.size;have:=R.o;have:=a.o;omega)).trans E.o
   have al:=(ye.1 F.o).1
   have af:=(ye.1 E.o).1
   have ae:=yb I;have T:=yb J
   have X:=yb (Q.o.res).len;have aj:=yb (Q.o.res).one;have Y:=yb (O.o.res).len;have am:=yb (O.o.res).one
   have aa:Hid (v0.heap.size≠G.heap.size):=yb (by have:=r.o.size;have:=s.o.size;have:=d.o.size;have:=f.o.size;omega)
   clear I J al af
   refine A0 (i:=8) (by kernel_rfl) rfl (fun K B=>?_)
   rw[yw (by rfl)]
   refine A9 35 _ _ rfl (v0.heap.size) 0 (by kernel_rfl) ps (by kernel_rfl) (p:=[]) (m:=A5) (q:=[]) (t:=35) (by simpa using ae.o) rfl (by rw[X.o];rfl) (AU (n:=26) (by kernel_rfl) X.o) aj.o ?_
   intro v5 U
   have M:Hid (Au v4 v5 (v0.heap.size) ps 35):=yb (by simpa using U)
   have an:Hid (BX (BD Bc (Bk+1)) W7.heap.size W7 v5):=yb (((g.o.mono a.o).trans (C.o.mono a.o)).wrote M.o (by have:=g.o.size;have:=a.o;omega))
   refine B.o _ _ (fun _=>an.o) ?_
   clear B K U
   refine A0 (i:=9) (by kernel_rfl) rfl (fun K B=>?_)
   rw[yw (by rfl)]
   refine A9 35 _ _ rfl (G.heap.size) 0 (by kernel_rfl) qs (by kernel_rfl) (p:=[]) (m:=A5) (q:=[]) (t:=35) (by have h:=(M.o.block _ aa.o.symm).trans T.o;simpa using h) rfl (by rw[Y.o];rfl) (AU (n:=26) (by kernel_rfl) Y.o) am.o ?_
   intro v6 a0
   have ak:Hid (Au v5 v6 (G.heap.size) qs 35):=yb (by simpa using a0)
   refine B.o _ _ (by intro h;cases h) ?_
   clear B K a0
   refine AF (by kernel_rfl) ?_
   refine NoPanic.normal ?_
   refine ay.o _ _ ?_
   refine Dt (P:=fun l=>Code.wp Try.prog _ _ ⟨l,[]⟩ v6) rfl ?_
   refine FE (ao.o D v3 v3 v4 v4 v5 v6 (v0.heap.size) (G.heap.size) ps qs Q.o O.o f.o (BX.refl _ _ _) (yf _) (yl a.o A.o.size) d.o.size f.o.size ((g.o.mono a.o).trans (C.o.mono a.o)) ag.o M.o ak.o aa.o (by have:=g.o.size;have:=a.o;omega) (by have:=r.o.size;have:=a.o;omega) (by have:=r.o.size;have:=s.o.size;have:=d.o.size;have:=f.o.size;have:=(ye.1 F.o).1;have:=(ye.1 E.o).1;omega) (by have:=r.o.size;have:=s.o.size;have:=d.o.size;have:=f.o.size;have:=(ye.1 F.o).1;have:=(ye.1 E.o).1;omega)) ⟨?_,?_,?_,?_⟩
   all_goals rfl
 ·go_simp
  obtain ⟨G,b9⟩:∃z:World,z=v0.alloc (.cells A5.toArray 35):=⟨_,rfl⟩
  have E:Hid (G.heap[v0.heap.size]?=some (.cells A5.toArray 35 (0,0))):=yb (by rw[b9];exact World.alloc_heap_new _ _)
  have r:Hid (BX (BD Bc (Bk+1)) v0.heap.size v0 G):=yb (by rw[b9];exact (BX.refl _ _ _).alloc (yf _) _)
  have ba:=yb (bi.o.to H1.o H2.o (W':=G) (fun j hj=>by rw[b9];exact yF _ _ _ (by have:=hj.2;have:=g.o.size;have:=a.o;have:=R.o;omega)) r.o.size)
  change K _ (v0.alloc (.cells A5.toArray 35))
  rw[<-b9]
  clear b9
  refine B.o _ _ (fun _=>((g.o.mono a.o).trans (r.o.mono a.o))) ?_
  clear B K
  refine DO (i:=2) (j:=6) (by kernel_rfl) rfl rfl (fun K B=>?_) (fun K B=>?_)
  ·go_simp
   refine (bg.o G ((g.o.mono a.o).trans (r.o.mono a.o)) ba.o).mono ?_
   rintro e D ⟨ps,rfl,bb,bd,be⟩
   have Q:=yb bb;have ap:=yb bd;have s:Hid (BX (BD Bc (Bk+1)) G.heap.size G D):=yb be
   clear bb bd be
   have A:Hid (BX (BD Bc (Bk+1)) v0.heap.size v0 D):=yb (r.o.trans (s.o.mono r.o.size))
   refine B.o _ _ (fun _=>((g.o.mono a.o).trans (A.o.mono a.o))) ?_
   clear B K
   refine DO (i:=5) (j:=6) (by kernel_rfl) rfl rfl (fun K B=>?_) (fun K B=>?_)
   ·go_simp
    refine (az.o D ((g.o.mono a.o).trans (A.o.mono a.o)) ap.o).mono ?_
    rintro e v3 ⟨qs,rfl,aw,au,aq⟩
    have O:=yb aw;have ah:=yb au;have d:Hid (BX (BD Bc (Bk+1)) D.heap.size D v3):=yb aq
    clear aw au aq
    have y:Hid (BX (BD Bc (Bk+1)) v0.heap.size v0 v3):=yb (A.o.trans (d.o.mono A.o.size))
    have H:Hid (BX (BD Bc (Bk+1)) G.heap.size G v3):=yb (s.o.trans (d.o.mono s.o.size))
    refine B.o _ _ (fun _=>((g.o.mono a.o).trans (y.o.mono a.o))) ?_
    clear B K
    refine A0 (i:=6) (by kernel_rfl) rfl (fun K B=>?_)
    go_simp
    obtain ⟨v4,ad⟩:∃z:World,z=v3.alloc (.cells A5.toArray 35):=⟨_,rfl⟩
    have F:Hid (v4.heap[v3.heap.size]?=some (.cells A5.toArray 35 (0,0))):=yb (by rw[ad];exact World.alloc_heap_new _ _)
    have f:Hid (BX (BD Bc (Bk+1)) v3.heap.size v3 v4):=yb (by rw[ad];exact (BX.refl _ _ _).alloc (yf _) _)
    have ag:=yb (ah.o.to H1.o H2.o (W':=v4) (fun j hj=>by rw[ad];exact yF _ _ _ (by have:=hj.2;have:=y.o.size;have:=a.o;have:=R.o;omega)) f.o.size)
    change K _ (v3.alloc (.cells A5.toArray 35))
    rw[<-ad]
    clear ad
    have C:Hid (BX (BD Bc (Bk+1)) v0.heap.size v0 v4):=yb (y.o.trans (f.o.mono y.o.size))
    have ac:Hid (BX (BD Bc (Bk+1)) G.heap.size G v4):=yb (H.o.trans (f.o.mono H.o.size))
    have Z:Hid (BX (BD Bc (Bk+1)) D.heap.size D v4):=yb (d.o.trans (f.o.mono d.o.size))
    refine B.o _ _ (fun _=>((g.o.mono a.o).trans (C.o.mono a.o))) ?_
    clear B K
    have I:v4.heap[v3.heap.size]?=some (.cells A5.toArray 35 (0,0)):=F.o
    have J:v4.heap[v0.heap.size]?=some (.cells A5.toArray 35 (0,0)):=(ac.o.block _ (by have:=(ye.1 E.o).1;omega) (fun h=>by have:=h.2;have:=g.o.size;have:=R.o;have:=a.o;omega)).trans E.o
    have al:=(ye.1 F.o).1
    have af:=(ye.1 E.o).1
    have ae:=yb I;have T:=yb J
    have X:=yb (Q.o.res).len;have aj:=yb (Q.o.res).one;have Y:=yb (O.o.res).len;have am:=yb (O.o.res).one
    have aa:Hid (v3.heap.size≠v0.heap.size):=yb (by have:=r.o.size;have:=s.o.size;have:=d.o.size;have:=f.o.size;omega)
    clear I J al af
    refine A0 (i:=8) (by kernel_rfl) rfl (fun K B=>?_)
    rw[yw (by rfl)]
    refine A9 35 _ _ rfl (v3.heap.size) 0 (by kernel_rfl) ps (by kernel_rfl) (p:=[]) (m:=A5) (q:=[]) (t:=35) (by simpa using ae.o) rfl (by rw[X.o];rfl) (AU (n:=26) (by kernel_rfl) X.o) aj.o ?_
    intro v5 U
    have M:Hid (Au v4 v5 (v3.heap.size) ps 35):=yb (by simpa using U)
    have an:Hid (BX (BD Bc (Bk+1)) W7.heap.size W7 v5):=yb (((g.o.mono a.o).trans (C.o.mono a.o)).wrote M.o (by have:=y.o.size;have:=a.o;omega))
    refine B.o _ _ (fun _=>an.o) ?_
    clear B K U
    refine A0 (i:=9) (by kernel_rfl) rfl (fun K B=>?_)
    rw[yw (by rfl)]
    refine A9 35 _ _ rfl (v0.heap.size) 0 (by kernel_rfl) qs (by kernel_rfl) (p:=[]) (m:=A5) (q:=[]) (t:=35) (by have h:=(M.o.block _ aa.o.symm).trans T.o;simpa using h) rfl (by rw[Y.o];rfl) (AU (n:=26) (by kernel_rfl) Y.o) am.o ?_
    intro v6 a0
    have ak:Hid (Au v5 v6 (v0.heap.size) qs 35):=yb (by simpa using a0)
    refine B.o _ _ (by intro h;cases h) ?_
    clear B K a0
    refine AF (by kernel_rfl) ?_
    refine NoPanic.normal ?_
    refine ay.o _ _ ?_
    refine Dt (P:=fun l=>Code.wp Try.prog _ _ ⟨l,[]⟩ v6) rfl ?_
    refine FE (ao.o G D D v3 v4 v5 v6 (v3.heap.size) (v0.heap.size) ps qs Q.o O.o Z.o f.o (yf _) (yl a.o r.o.size) s.o.size d.o.size ((g.o.mono a.o).trans (C.o.mono a.o)) ag.o M.o ak.o aa.o (by have:=y.o.size;have:=a.o;omega) (by have:=g.o.size;have:=a.o;omega) (by have:=r.o.size;have:=s.o.size;have:=d.o.size;have:=f.o.size;have:=(ye.1 F.o).1;have:=(ye.1 E.o).1;omega) (by have:=r.o.size;have:=s.o.size;have:=d.o.size;have:=f.o.size;have:=(ye.1 F.o).1;have:=(ye.1 E.o).1;omega)) ⟨?_,?_,?_,?_⟩
    all_goals rfl
   ·go_simp
    obtain ⟨v3,S⟩:∃z:World,z=D.alloc (.cells A5.toArray 35):=⟨_,rfl⟩
    have F:Hid (v3.heap[D.heap.size]?=some (.cells A5.toArray 35 (0,0))):=yb (by rw[S];exact World.alloc_heap_new _ _)
    have d:Hid (BX (BD Bc (Bk+1)) D.heap.size D v3):=yb (by rw[S];exact (BX.refl _ _ _).alloc (yf _) _)
    have ah:=yb (ap.o.to H1.o H2.o (W':=v3) (fun j hj=>by rw[S];exact yF _ _ _ (by have:=hj.2;have:=A.o.size;have:=a.o;have:=R.o;omega)) d.o.size)
    change K _ (D.alloc (.cells A5.toArray 35))
    rw[<-S]
    clear S
    have y:Hid (BX (BD Bc (Bk+1)) v0.heap.size v0 v3):=yb (A.o.trans (d.o.mono A.o.size))
    have H:Hid (BX (BD Bc (Bk+1)) G.heap.size G v3):=yb (s.o.trans (d.o.mono s.o.size))
    refine B.o _ _ (fun _=>((g.o.mono a.o).trans (y.o.mono a.o))) ?_
    clear B K
    refine A0 (i:=5) (by kernel_rfl) rfl (fun K B=>?_)
    go_simp
    refine (az.o v3 ((g.o.mono a.o).trans (y.o.mono a.o)) ah.o).mono ?_
    rintro e v4 ⟨qs,rfl,ar,ax,av⟩
    have O:=yb ar;have ag:=yb ax;have f:Hid (BX (BD Bc (Bk+1)) v3.heap.size v3 v4):=yb av
    clear ar ax av
    have C:Hid (BX (BD Bc (Bk+1)) v0.heap.size v0 v4):=yb (y.o.trans (f.o.mono y.o.size))
    have ac:Hid (BX (BD Bc (Bk+1)) G.heap.size G v4):=yb (H.o.trans (f.o.mono H.o.size))
    have Z:Hid (BX (BD Bc (Bk+1)) D.heap.size D v4):=yb (d.o.trans (f.o.mono d.o.size))
    refine B.o _ _ (fun _=>((g.o.mono a.o).trans (C.o.mono a.o))) ?_
    clear B K
    have I:v4.heap[D.heap.size]?=some (.cells A5.toArray 35 (0,0)):=(f.o.block _ (by have:=(ye.1 F.o).1;omega) (fun h=>by have:=h.2;have:=A.o.size;have:=R.o;have:=a.o;omega)).trans F.o
    have J:v4.heap[v0.heap.size]?=some (.cells A5.toArray 35 (0,0)):=(ac.o.block _ (by have:=(ye.1 E.o).1;omega) (fun h=>by have:=h.2;have:=g.o.size;have:=R.o;have:=a.o;omega)).trans E.o
    have al:=(ye.1 F.o).1
    have af:=(ye.1 E.o).1
    have ae:=yb I;have T:=yb J
    have X:=yb (Q.o.res).len;have aj:=yb (Q.o.res).one;have Y:=yb (O.o.res).len;have am:=yb (O.o.res).one
    have aa:Hid (D.heap.size≠v0.heap.size):=yb (by have:=r.o.size;have:=s.o.size;have:=d.o.size;have:=f.o.size;omega)
    clear I J al af
    refine A0 (i:=8) (by kernel_rfl) rfl (fun K B=>?_)
    rw[yw (by rfl)]
    refine A9 35 _ _ rfl (D.heap.size) 0 (by kernel_rfl) ps (by kernel_rfl) (p:=[]) (m:=A5) (q:=[]) (t:=35) (by simpa using ae.o) rfl (by rw[X.o];rfl) (AU (n:=26) (by kernel_rfl) X.o) aj.o ?_
    intro v5 U
    have M:Hid (Au v4 v5 (D.heap.size) ps 35):=yb (by simpa using U)
    have an:Hid (BX (BD Bc (Bk+1)) W7.heap.size W7 v5):=yb (((g.o.mono a.o).trans (C.o.mono a.o)).wrote M.o (by have:=A.o.size;have:=a.o;omega))
    refine B.o _ _ (fun _=>an.o) ?_
    clear B K U
    refine A0 (i:=9) (by kernel_rfl) rfl (fun K B=>?_)
    rw[yw (by rfl)]
    refine A9 35 _ _ rfl (v0.heap.size) 0 (by kernel_rfl) qs (by kernel_rfl) (p:=[]) (m:=A5) (q:=[]) (t:=35) (by have h:=(M.o.block _ aa.o.symm).trans T.o;simpa using h) rfl (by rw[Y.o];rfl) (AU (n:=26) (by kernel_rfl) Y.o) am.o ?_
    intro v6 a0
    have ak:Hid (Au v5 v6 (v0.heap.size) qs 35):=yb (by simpa using a0)
    refine B.o _ _ (by intro h;cases h) ?_
    clear B K a0
    refine AF (by kernel_rfl) ?_
    refine NoPanic.normal ?_
    refine ay.o _ _ ?_
    refine Dt (P:=fun l=>Code.wp Try.prog _ _ ⟨l,[]⟩ v6) rfl ?_
    refine FE (ao.o G D v3 v4 v4 v5 v6 (D.heap.size) (v0.heap.size) ps qs Q.o O.o Z.o (BX.refl _ _ _) d.o.size (yl a.o r.o.size) s.o.size f.o.size ((g.o.mono a.o).trans (C.o.mono a.o)) ag.o M.o ak.o aa.o (by have:=A.o.size;have:=a.o;omega) (by have:=g.o.size;have:=a.o;omega) (by have:=r.o.size;have:=s.o.size;have:=d.o.size;have:=f.o.size;have:=(ye.1 F.o).1;have:=(ye.1 E.o).1;omega) (by have:=r.o.size;have:=s.o.size;have:=d.o.size;have:=f.o.size;have:=(ye.1 F.o).1;have:=(ye.1 E.o).1;omega)) ⟨?_,?_,?_,?_⟩
    all_goals rfl
  ·go_simp
   obtain ⟨D,ai⟩:∃z:World,z=G.alloc (.cells A5.toArray 35):=⟨_,rfl⟩
   have F:Hid (D.heap[G.heap.size]?=some (.cells A5.toArray 35 (0,0))):=yb (by rw[ai];exact World.alloc_heap_new _ _)
   have s:Hid (BX (BD Bc (Bk+1)) G.heap.size G D):=yb (by rw[ai];exact (BX.refl _ _ _).alloc (yf _) _)
   have ap:=yb (ba.o.to H1.o H2.o (W':=D) (fun j hj=>by rw[ai];exact yF _ _ _ (by have:=hj.2;have:=r.o.size;have:=a.o;have:=R.o;omega)) s.o.size)
   change K _ (G.alloc (.cells A5.toArray 35))
   rw[<-ai]
   clear ai
   have A:Hid (BX (BD Bc (Bk+1)) v0.heap.size v0 D):=yb (r.o.trans (s.o.mono r.o.size))
   refine B.o _ _ (fun _=>((g.o.mono a.o).trans (A.o.mono a.o))) ?_
   clear B K
   refine A0 (i:=2) (by kernel_rfl) rfl (fun K B=>?_)
   go_simp
   refine (bg.o D ((g.o.mono a.o).trans (A.o.mono a.o)) ap.o).mono ?_
   rintro e v3 ⟨ps,rfl,aw,au,aq⟩
   have Q:=yb aw;have ah:=yb au;have d:Hid (BX (BD Bc (Bk+1)) D.heap.size D v3):=yb aq
   clear aw au aq
   have y:Hid (BX (BD Bc (Bk+1)) v0.heap.size v0 v3):=yb (A.o.trans (d.o.mono A.o.size))
   have H:Hid (BX (BD Bc (Bk+1)) G.heap.size G v3):=yb (s.o.trans (d.o.mono s.o.size))
   refine B.o _ _ (fun _=>((g.o.mono a.o).trans (y.o.mono a.o))) ?_
   clear B K
   refine A0 (i:=5) (by kernel_rfl) rfl (fun K B=>?_)
   go_simp
   refine (az.o v3 ((g.o.mono a.o).trans (y.o.mono a.o)) ah.o).mono ?_
   rintro e v4 ⟨qs,rfl,ar,ax,av⟩
   have O:=yb ar;have ag:=yb ax;have f:Hid (BX (BD Bc (Bk+1)) v3.heap.size v3 v4):=yb av
   clear ar ax av
   have C:Hid (BX (BD Bc (Bk+1)) v0.heap.size v0 v4):=yb (y.o.trans (f.o.mono y.o.size))
   have ac:Hid (BX (BD Bc (Bk+1)) G.heap.size G v4):=yb (H.o.trans (f.o.mono H.o.size))
   have Z:Hid (BX (BD Bc (Bk+1)) D.heap.size D v4):=yb (d.o.trans (f.o.mono d.o.size))
   refine B.o _ _ (fun _=>((g.o.mono a.o).trans (C.o.mono a.o))) ?_
   clear B K
   have I:v4.heap[G.heap.size]?=some (.cells A5.toArray 35 (0,0)):=(Z.o.block _ (by have:=(ye.1 F.o).1;omega) (fun h=>by have:=h.2;have:=r.o.size;have:=R.o;have:=a.o;omega)).trans F.o
   have J:v4.heap[v0.heap.size]?=some (.cells A5.toArray 35 (0,0)):=(ac.o.block _ (by have:=(ye.1 E.o).1;omega) (fun h=>by have:=h.2;have:=g.o.size;have:=R.o;have:=a.o;omega)).trans E.o
   have al:=(ye.1 F.o).1
   have af:=(ye.1 E.o).1
   have ae:=yb I;have T:=yb J
   have X:=yb (Q.o.res).len;have aj:=yb (Q.o.res).one;have Y:=yb (O.o.res).len;have am:=yb (O.o.res).one
   have aa:Hid (G.heap.size≠v0.heap.size):=yb (by have:=r.o.size;have:=s.o.size;have:=d.o.size;have:=f.o.size;omega)
   clear I J al af
   refine A0 (i:=8) (by kernel_rfl) rfl (fun K B=>?_)
   rw[yw (by rfl)]
   refine A9 35 _ _ rfl (G.heap.size) 0 (by kernel_rfl) ps (by kernel_rfl) (p:=[]) (m:=A5) (q:=[]) (t:=35) (by simpa using ae.o) rfl (by rw[X.o];rfl) (AU (n:=26) (by kernel_rfl) X.o) aj.o ?_
   intro v5 U
   have M:Hid (Au v4 v5 (G.heap.size) ps 35):=yb (by simpa using U)
   have an:Hid (BX (BD Bc (Bk+1)) W7.heap.size W7 v5):=yb (((g.o.mono a.o).trans (C.o.mono a.o)).wrote M.o (by have:=r.o.size;have:=a.o;omega))
   refine B.o _ _ (fun _=>an.o) ?_
   clear B K U
   refine A0 (i:=9) (by kernel_rfl) rfl (fun K B=>?_)
   rw[yw (by rfl)]
   refine A9 35 _ _ rfl (v0.heap.size) 0 (by kernel_rfl) qs (by kernel_rfl) (p:=[]) (m:=A5) (q:=[]) (t:=35) (by have h:=(M.o.block _ aa.o.symm).trans T.o;simpa using h) rfl (by rw[Y.o];rfl) (AU (n:=26) (by kernel_rfl) Y.o) am.o ?_
   intro v6 a0
   have ak:Hid (Au v5 v6 (v0.heap.size) qs 35):=yb (by simpa using a0)
   refine B.o _ _ (by intro h;cases h) ?_
   clear B K a0
   refine AF (by kernel_rfl) ?_
   refine NoPanic.normal ?_
   refine ay.o _ _ ?_
   refine Dt (P:=fun l=>Code.wp Try.prog _ _ ⟨l,[]⟩ v6) rfl ?_
   refine FE (ao.o D v3 v3 v4 v4 v5 v6 (G.heap.size) (v0.heap.size) ps qs Q.o O.o f.o (BX.refl _ _ _) (yf _) (yl a.o A.o.size) d.o.size f.o.size ((g.o.mono a.o).trans (C.o.mono a.o)) ag.o M.o ak.o aa.o (by have:=r.o.size;have:=a.o;omega) (by have:=g.o.size;have:=a.o;omega) (by have:=r.o.size;have:=s.o.size;have:=d.o.size;have:=f.o.size;have:=(ye.1 F.o).1;have:=(ye.1 E.o).1;omega) (by have:=r.o.size;have:=s.o.size;have:=d.o.size;have:=f.o.size;have:=(ye.1 F.o).1;have:=(ye.1 E.o).1;omega)) ⟨?_,?_,?_,?_⟩
   all_goals rfl
set_option linter.unusedSimpArgs false
structure XN (w:World) (N:Nat->Prop) (L Ly:Bw) (Ny:Nat->Prop) (cs ks:List Value) (x:Am) (c wh B7 Bc Ba:Nat) (hd:Ai) (nms:List ByteArray) (W6:World):Prop where
 h1:Bc < Ba
 h2:Ba < W6.heap.size
 nmsE:nms=(Tb.of x).at c
 c4:c < 4
 wh:wh < 256
 sx:Bb N W6 L cs x
 nx:∀b,N b->b < w.heap.size
 sy:Ay x=0->Bb Ny W6 Ly ks (Ab x)
 ny:∀b,Ny b->b < Bc
 slx:Rz x
 sly:Rz (Ab x)
 r0:w.heap.size<=Bc
 b7:B7 < Bc
 b7w:w.heap.size < B7
 xs:W6.rangeAt w.heap.size 0 cs
 xk:W6.rangeAt B7 0 ks
 cb:W6.heap[Bc]?=some (.cells #[.int .i64 (c:Int)] 3 (0,0))
 ab:W6.heap[Ba]?=some (.cells #[hd.v] 43 (0,0))
 nm:SN (BD Bc W6.heap.size) W6 hd nms
 gv:GV W6
 gw:0 < w.heap.size
 bl:Below w.heap.size w W6
 dp:∀e∈AN x,AJ e.1<=1000000
 fw:Fw x
structure UA (w:World) (wh B7 Bc Ba:Nat) (e:Int) (u:Nat->Value):Prop where
 u2:u 2=.int .u8 (wh:Int)
 u3:u 3=.pointer (some ⟨w.heap.size,0,none⟩)
 u7:u 7=.pointer (some ⟨B7,0,none⟩)
 u8:u 8=.int .i64 e
 u9:u 9=.pointer (some ⟨Bc,0,none⟩)
 u10:u 10=.pointer (some ⟨Ba,0,none⟩)
theorem WI{w:World}{N:NP}{L Ly:Bw}{Ny:NP}{cs ks:LV}{x:Am}{c wh B7 Bc Ba:Nat}{hd:Ai}{nms:LB}{r:World}{u:Nat->Value}(hA:XN w N L Ly Ny cs ks x c wh B7 Bc Ba hd nms r)(C:UA w wh B7 Bc Ba (Ay x) u):
  Code.wp Try.prog (CJ 6 (Try.f7.body.getD .skip)) (bodyPost Try.prog Try.f7 fun e w'=>e=.returned (.bool true)∧Below w.heap.size w w') {tmps:=Of u,defers:=[]} r:=by
 rw[Og,C.u2,C.u3,C.u7,C.u8,C.u9,C.u10]
 have a:=yb hA
 clear hA C
 obtain ⟨O,d,hc⟩:=hd
 have a6:r.cell? (aV Ba 0)=some (.slice O d hc):=by simp[World.cell?,a.o.ab,Ai.v]
 have a7:d<=140737488355328:=by rw[show d=nms.length from a.o.nm.nm.1];exact a.o.nm.nm.2.1
 by_cases n:Ay x=0
 rotate_left
 ·have p:(Ay x !=0)=true:=by simpa using n
  generalize Ay x=cz at p
  clear n
  refine Af fun K g=>?_
  clear g
  go_wp2
  go_ret
  exact ⟨rfl,a.o.bl⟩
 rw[n]
 have J:=yb n
 clear n
 obtain rfl|t:d=0∨0 < d:=by omega
 ·refine Af fun K g=>?_
  clear g
  go_wp2
  go_ret
  exact ⟨rfl,a.o.bl⟩
 have U:((d:Int)==0)=false:=by simp;omega
 obtain ⟨k,hk,y⟩:∃k:Nat,(wrap64 (wh:Int)).tmod (d:Int)=(k:Int)∧k < d:=by
  have h1:=a.o.wh
  have h2:wrap64 (wh:Int)=wh:=by unfold wrap64;omega
  refine ⟨wh % d,?_,Nat.mod_lt _ t⟩
  rw[h2,Int.tmod_eq_emod_of_nonneg (by omega)]
  omega
 iterate 2
  refine Af fun K g=>?_
  go_wp2
  refine g.o _ _ ?_
  clear g K
 first|rw[hk]|skip
 obtain ⟨B,m⟩:∃z:World,z=r.alloc (.cells #[iV (k:Int)] 3):=⟨_,rfl⟩
 rw[<-m]
 have f:Hid (Below r.heap.size r B):=yb (by rw[m];exact (yg _ _).alloc (yf _) _)
 have X:Hid (B.heap.size=r.heap.size+1):=yb (by rw[m];simp)
 have a1:Hid (B.heap[r.heap.size]?=some (.cells #[iV (k:Int)] 3 (0,0))):=yb (by rw[m];exact World.alloc_heap_new _ _)
 have G:B.cell? (aV Ba 0)=some (.slice O d hc):=by
  have e:=(f.o.block _ a.o.h2).trans a.o.ab
  simp[World.cell?,e,Ai.v]
 have Z:Hid (∀i,(h:i < nms.length)->∃D E cs,O=some (aV D E)∧cs.length=1∧B.rangeAt D (E+i*1) cs∧cs[0]?=some (.string nms[i])):=yb (fun i hi=>by
  obtain ⟨D,E,cs,h1,h2,h3,h4,h5,h6,h7⟩:=a.o.nm.nm.2.2 i hi
  exact ⟨D,E,cs,h1,h3,A2 h4 (f.o.block _ h2),h6⟩)
 have Q:Hid (d=nms.length):=yb a.o.nm.nm.1
 have q:Hid (Below w.heap.size w B):=yb (a.o.bl.trans (f.o.mono a.o.bl.size))
 have V:=yb y
 clear m hk a6 U t y
 refine Af fun K g=>?_
 go_wp2
 go_loopw [52] (fun iv wr=>∃i:Nat,i<=d∧iv=iV i∧wr=B∧Hid (∀j (_:j < nms.length),j < i->nms[j]≠FT)) (fun iv _=>d - (intOf iv).toNat)
 case atStart=>exact ⟨0,yC _,rfl,rfl,yb (fun j _ h=>absurd h (by omega))⟩
 case round=>
  obtain ⟨i,hi,rfl,rfl,HP⟩:=hrel
  by_cases T:i < d
  ·have R:i < nms.length:=by rw[<-Q.o];exact T
   have W:(i:Int) < (d:Int):=by omega
   obtain ⟨D,E,aa,rfl,hl,H,M⟩:=Z.o i R
   have p:wr.cell? (aV D (E+i))=some (.string nms[i]):=by
    have:=H 0 _ M
    simpa using this
   clear H M hl
   by_cases F:nms[i]=FT
   ·rw[F] at p
    unfold FT at p
    clear F
    go_wp2
    go_ret
    exact ⟨rfl,q.o⟩
   ·have a0:Hid (∀j (_:j < nms.length),j < i+1->nms[j]≠FT):=yb (fun j s ac=>by
     by_cases h:j=i
     ·subst h;exact F
     ·exact HP.o j s (by omega))
    generalize nms[i]=nm at p
    clear F
    go_wp2
    ·go_ret
     exact ⟨rfl,q.o⟩
    ·exact ⟨⟨i+1,by omega,by push_cast;rfl,trivial,a0⟩,by simp[intOf];omega⟩
  ·obtain rfl:i=d:=by omega
   have W:decide ((i:Int) < (i:Int))=false:=by simp
   have I:Hid (FT∉nms):=yb (fun h=>by
    obtain ⟨j,s,F⟩:=xM h
    exact HP.o j s (by rw[Q.o];exact s) F)
   clear G
   go_wp2
   refine g.o _ _ ?_
   refine Af fun K2 Y=>?_
   go_wp2
   refine Y.o _ _ ?_
   refine Dt (P:=fun l=>Code.wp Try.prog _ _ ⟨l,[]⟩ wr) rfl ?_
   have hb:=f.o
   have h1:=a.o.h1;have h2:=a.o.h2;have hz:=X.o;have y:=V.o;have a8:=Q.o;have S:=a.o.r0;have h7:=a.o.b7;have a2:=a.o.b7w
   refine VL (N:=N) (L:=L) (Ly:=Ly) (Ny:=Ny) (cs:=cs) (ks:=ks) (x:=x) (c:=c) (k:=k) (B7:=B7) (Bc:=Bc) (Ba:=Ba) (Bk:=r.heap.size) (hd:=⟨O,i,hc⟩) (nms:=nms) ⟨h1,h2,by omega,a.o.nmsE,a.o.c4,I.o,a.o.sx.same (fun _ h=>h) (fun b A=>hb.block b (by have:=a.o.nx b A;omega)),a.o.nx,(a.o.sy J.o).same (fun _ h=>h) (fun b A=>hb.block b (by have:=a.o.ny b A;omega)),a.o.ny,a.o.slx,a.o.sly,S,h7,a2,by omega,A2 a.o.xs (hb.block _ (by omega)),A2 a.o.xk (hb.block _ (by omega)),⟨(hb.block _ (by omega)).trans a.o.cb,(hb.block _ (by omega)).trans a.o.ab,a1.o,a.o.nm.to (fun j s=>hb.block j s.2) hb.size (fun j s=>⟨s.1,by have:=s.2;omega⟩)⟩,a.o.gv.below hb a.o.gv.1,a.o.gw,q.o,J.o,a.o.dp,a.o.fw⟩ ⟨rfl,rfl,rfl,rfl,rfl,rfl⟩
set_option linter.unusedSimpArgs false
theorem QQ{N:NP}{w:World}{L:Bw}{cs:LV}{x:Am}(h:Bb N w L cs x)(hN:∀b,N b->b < w.heap.size)(hg:GV w){ca wh:Nat}(bi:ca < 256)(b4:wh < 256):
  Calls Try.prog 7 #[.agg cs.toArray,.int .u8 (ca:Int),.int .u8 (wh:Int)] w fun e w'=>e=.returned (.bool true)∧Below w.heap.size w w':=by
 have f:Hid (∀W,Below w.heap.size w W->Bb N W L cs x∧(∀b,N b->b < W.heap.size)∧GV W):=yb (fun W B=>⟨h.same (fun _ h=>h) (fun b hb=>B.block b (hN b hb)),fun b hb=>yr (hN b hb) B.size,hg.below B hg.1⟩)
 have F:=yb (Dy.len ⟨L,h⟩)
 clear h hN hg
 go_enter Try.func7,Try.ntmps7
 refine Af fun K d=>?_
 go_wp2_with (first|(refine EY rfl 35 _ rfl cs.toArray rfl ?_))
 refine d.o _ _ ?_
 clear d K
 obtain ⟨J,Q⟩:∃z:World,z=w.alloc (.cells cs.toArray 35):=⟨_,rfl⟩
 rw[<-Q]
 have aa:Hid (Below w.heap.size w J):=yb (by rw[Q];exact (yg _ _).alloc (yf _) _)
 have M:Hid (∀W,Below J.heap.size J W->W.rangeAt w.heap.size 0 cs∧Below w.heap.size w W):=yb (fun W B=>by
  have hz:J.heap.size=w.heap.size+1:=by rw[Q];simp
  have hx:J.heap[w.heap.size]?=some (.cells cs.toArray 35 (0,0)):=by rw[Q];exact World.alloc_heap_new _ _
  exact ⟨Aw ((B.block _ (by omega)).trans hx),aa.o.trans (B.mono aa.o.size)⟩)
 have bh:Hid (J.heap.size=w.heap.size+1):=yb (by rw[Q];simp)
 clear Q
 refine Af fun K d=>?_
 go_wp2_with (first|(go_at_call 9;refine (UH (f.o J aa.o).2.2).mono ?_;rintro e w1 ⟨rfl,b9⟩;have D:=yb b9;clear b9))
 refine d.o _ _ ?_
 clear d K
 have s:=yb (M.o w1 D.o)
 refine Af fun K d=>?_
 cases hq:FP x
 ·clear d
  go_wp2_with (first
   |(refine ym rfl 35 _ rfl w.heap.size 0 rfl cs _ s.o.1 qM rfl (AU (n:=26) (by kernel_rfl) F.o) ?_)
   |(go_at_call 10;refine (RF (f.o w1 s.o.2).1 (f.o w1 s.o.2).2.1).mono ?_;rintro e w2 ⟨rfl,a⟩;rw[hq];have m:=yb a;clear a))
  go_ret
  exact ⟨rfl,s.o.2.trans (m.o.mono s.o.2.size)⟩
 have al:=yb hq
 go_wp2_with (first
  |(refine ym rfl 35 _ rfl w.heap.size 0 rfl cs _ s.o.1 qM rfl (AU (n:=26) (by kernel_rfl) F.o) ?_)
  |(go_at_call 10;refine (RF (f.o w1 s.o.2).1 (f.o w1 s.o.2).2.1).mono ?_;rintro e w2 ⟨rfl,a⟩;rw[hq];have m:Hid (Below J.heap.size J w2):=yb (D.o.trans (a.mono D.o.size));clear a))
 refine d.o _ _ ?_
 clear d K hq
 have T:=yb (M.o w2 m.o)
 have ao:=yb (Vt al.o)
 have bv:=yb (WH ao.o)
 have Z:=yb (Uj al.o)
 have HC:=yb (Ej (f.o w2 T.o.2).1 (f.o w2 T.o.2).2.1 Z.o.1 (f.o w2 T.o.2).2.2 Z.o.2)
 refine Af fun K d=>?_
 go_wp2_with (first
  |(refine ym rfl 35 _ rfl w.heap.size 0 rfl cs _ T.o.1 qM rfl (AU (n:=26) (by kernel_rfl) F.o) ?_)
  |(go_at_call 11;refine HC.o.mono ?_;intro e w3 an;obtain ⟨az,ks,rfl,ah⟩:=PQ an;have b8:=yb ah;have ad:=yb az;have b3:=yb ah.len;have bo:=yb ah.one;clear an az ah)
  |(refine Ae rfl 35 _ _ rfl w3.heap.size rfl ks rfl (World.alloc_heap_new _ _) (by rw[b3.o];rfl) (AU (n:=26) (by kernel_rfl) b3.o) bo.o ?_;intro w4 ba;have ai:=yb ba;clear ba))
 refine d.o _ _ ?_
 clear d K
 have a6:Hid (Below w3.heap.size w3 w4):=yb (ai.o.below ((yg _ _).alloc (yf _) _) (yf _))
 have aj:Hid (Below J.heap.size J w4):=yb (m.o.trans ((ad.o.trans (a6.o.mono ad.o.size)).mono m.o.size))
 have b5:=yb (M.o w4 aj.o)
 have U:=yb Z.o.1
 have aw:=yb Z.o.2
 have bj:=yb bi;have ax:=yb b4
 have be:Hid (w3.heap.size < w4.heap.size):=yb (ye.1 ai.o.row).1
 obtain ⟨c,hc,H⟩:∃c:Nat,(wrap64 (ca:Int)).tmod 4=(c:Int)∧c < 4:=by
  have h1:=bj.o
  have h2:wrap64 (ca:Int)=ca:=by unfold wrap64;omega
  refine ⟨ca % 4,?_,by omega⟩
  rw[h2,Int.tmod_eq_emod_of_nonneg (by omega)]
  omega
 have Y:=yb H
 clear bi b4 H
 refine Af fun K d=>?_
 go_wp2
 refine d.o _ _ ?_
 clear d K
 first|rw[hc]|skip
 clear hc
 obtain ⟨g,V⟩:∃z:World,z=w4.alloc (.cells #[iV (c:Int)] 3):=⟨_,rfl⟩
 rw[<-V]
 have G:Hid (Below w4.heap.size w4 g):=yb (by rw[V];exact (yg _ _).alloc (yf _) _)
 have R:Hid (g.heap.size=w4.heap.size+1):=yb (by rw[V];simp)
 have ay:Hid (g.heap[w4.heap.size]?=some (.cells #[iV (c:Int)] 3 (0,0))):=yb (by rw[V];exact World.alloc_heap_new _ _)
 clear V
 have a0:Hid (Below J.heap.size J g):=yb (aj.o.trans (G.o.mono aj.o.size))
 have bz:=yb (M.o g a0.o)
 have ac:Hid (∀W,Below g.heap.size g W->W.rangeAt w.heap.size 0 cs∧Below w.heap.size w W):=yb (fun W B=>M.o W (a0.o.trans (B.mono a0.o.size)))
 have bb:Hid (∀W,Below g.heap.size g W->Calls Try.prog 16 #[.agg cs.toArray] W (Xm W (Tb.of x))):=yb (fun W B=>O7 (f.o W (ac.o W B).2).1 (f.o W (ac.o W B).2).2.1 ao.o)
 have bp:Hid (∀W,Below g.heap.size g W->W.cell? (aV w4.heap.size 0)=some (iV (c:Int))):=yb (fun W B=>by
  have e:=(B.block _ (by have:=R.o;omega)).trans ay.o
  simp[World.cell?,e])
 have am:Hid (∀(Ba:Nat) (hd:Ai) (X:World) (u:Nat->Value),w4.heap.size < Ba->Ba < X.heap.size->X.heap[Ba]?=some (.cells #[hd.v] 43 (0,0))->SN (BD w4.heap.size X.heap.size) X hd ((Tb.of x).at c)->Below g.heap.size g X->UA w wh w3.heap.size w4.heap.size Ba (Ay x) u->Code.wp Try.prog (CJ 6 (Try.f7.body.getD .skip)) (bodyPost Try.prog Try.f7 fun e w'=>e=.returned (.bool true)∧Below w.heap.size w w') {tmps:=Of u,defers:=[]} X):=yb (by
  intro Ba hd X u h1 h2 bq a7 af hu
  have a8:=ac.o X af
  have bw:=R.o
  have ak:=be.o
  obtain ⟨Ly,bt⟩:∃Ly,Ay x=0->Bb (Tf w3) w3 Ly ks (Ab x):=by
   by_cases h0:Ay x=0
   ·have hk:=b8.o
    unfold PO at hk
    rw[yw h0] at hk
    obtain ⟨Ly,hv⟩:=hk
    exact ⟨Ly,fun _=>hv⟩
   ·exact ⟨⟨0,⟨none,0,0⟩,⟨none,0,0⟩,⟨none,0,0⟩,⟨none,0,0⟩,⟨none,0,0⟩,⟨none,0,0⟩,⟨none,0,0⟩,[]⟩,fun h=>absurd h h0⟩
  have bg:∀b,b < w3.heap.size->X.heap[b]?=w3.heap[b]?:=fun b hb=>(af.block b (by omega)).trans ((G.o.block b (by omega)).trans (a6.o.block b hb))
  exact WI (N:=N) (L:=L) (Ly:=Ly) (Ny:=Tf w3) (cs:=cs) (ks:=ks) ⟨h1,h2,rfl,Y.o,ax.o,(f.o X a8.2).1,(fun b hb=>by have:=(f.o w (yg _ _)).2.1 b hb;exact this),fun h=>(bt h).same (fun _ h=>h) (fun b hb=>bg b hb),fun b hb=>by unfold Tf at hb;omega,Ul U.o,Ul (Vu U.o),by have:=b5.o.2.size;omega,ak,by have:=m.o.size;have:=bh.o;have:=ad.o.size;omega,a8.1,Aw ((af.block _ (by omega)).trans ((G.o.block _ ak).trans ai.o.row)),(af.block _ (by omega)).trans ay.o,bq,a7,(f.o X a8.2).2.2,(f.o w (yg _ _)).2.2.1,a8.2,aw.o,ao.o⟩ hu)
 have r:Hid (Below g.heap.size g g.drew):=yb (yg _ _).drew
 clear f M HC b5 a6 G aj ad m D aa s T b8 ai bv Z U aw bj ax
 refine Af fun K3 bd=>?_
 refine wp_region_noPanic ?_
 refine BZ (by kernel_rfl) (fun W=>Below g.heap.size g W) 5 ?_
 obtain ⟨v0,ar⟩:∃z:World,z=g.drew:=⟨_,rfl⟩
 have c3:Hid (g.heap.size<=v0.heap.size):=yb (by rw[ar];exact yf _)
 rw[<-ar] at r ⊢
 clear ar
 refine Aj (i:=0) (v:=.agg (cs).toArray) rfl (by kernel_rfl) (by kernel_rfl) (by kernel_rfl) (fun _ _ _ h=>h) (by kernel_rfl) (yS (by rfl) 35 _ rfl (w.heap.size) 0 (by kernel_rfl) (cs) _ (fun W B=>(ac.o W B).1) qM rfl (AU (n:=26) (by kernel_rfl) F.o)) r.o ?_
 refine Aj (i:=2) (v:=iV (c:Int)) rfl (by kernel_rfl) (by kernel_rfl) (by kernel_rfl) (fun _ _ _ h=>h) (by kernel_rfl) (Or.inl ⟨by rfl,?_⟩) r.o ?_
 ·intro W B
  have c5:=bp.o W B
  go_simp
 refine DO (i:=1) (j:=4) (by kernel_rfl) rfl rfl (fun K d=>?_) (fun K d=>?_)
 ·go_simp
  refine (bb.o v0 r.o).mono ?_
  rintro e q ⟨h0,h1,h2,h3,rfl,a1,C⟩
  have av:=yb a1;have p:Hid (Below g.heap.size g q):=yb (r.o.trans (C.mono r.o.size));have D:=yb C
  clear a1 C
  refine d.o _ _ (fun _=>p.o) ?_
  clear d K
  obtain ⟨⟨I,S,hc⟩,a2⟩:∃h:Ai,WK (h0,h1,h2,h3) c=h:=⟨_,rfl⟩
  have E:=yb a2
  clear a2
  refine A1 (i:=3) (v:=.slice I S hc) rfl (by kernel_rfl) (by kernel_rfl) (by kernel_rfl) (fun _ _ _ h=>h) (by kernel_rfl) (Or.inl ⟨by rfl,?_⟩) (fun _=>p.o) ?_
  ·intro w _
   have H:=Y.o
   rw[show Value.slice I S hc=(WK (h0,h1,h2,h3) c).v from (yJ Ai.v E.o).symm]
   clear E
   obtain rfl|rfl|rfl|rfl:c=0∨c=1∨c=2∨c=3:=by omega
   all_goals (go_simp;rfl)
  refine A0 (i:=4) (by kernel_rfl) rfl (fun K d=>?_)
  go_simp
  obtain ⟨A,ae⟩:∃z:World,z=q.alloc (.cells j9 43):=⟨_,rfl⟩
  have HX:Hid (A.heap[q.heap.size]?=some (.cells j9 43 (0,0))):=yb (by rw[ae];exact World.alloc_heap_new _ _)
  have m:Hid (Below q.heap.size q A):=yb (by rw[ae];exact (yg _ _).alloc (yf _) _)
  have O:Hid (Below g.heap.size g A):=yb (p.o.trans (m.o.mono p.o.size))
  change K _ (q.alloc (.cells j9 43))
  rw[<-ae]
  clear ae
  refine d.o _ _ (fun _=>O.o) ?_
  clear d K
  have t:Hid (A.heap[q.heap.size]?=some (.cells j9 43 (0,0))):=yb (HX.o)
  have bu:A.cell? (aV q.heap.size 0)=some (.slice none 0 0):=by simp[World.cell?,t.o]
  have bm:A.frozen? (aV q.heap.size 0)=false:=by simp[World.frozen?,t.o]
  refine A0 (i:=5) (by kernel_rfl) rfl (fun K d=>?_)
  rw[yw (by rfl)]
  go_simp
  refine d.o _ _ (by intro h;cases h) ?_
  clear d K
  refine AF (by kernel_rfl) ?_
  refine NoPanic.normal ?_
  refine bd.o _ _ ?_
  refine Dt (P:=fun l=>Code.wp Try.prog _ _ ⟨l,[]⟩ _) rfl ?_
  have ap:=z7 A q.heap.size 0 _ _ (.slice I S hc) t.o
  have y:(A.setCell (aV q.heap.size 0) (.slice I S hc)).heap.size=A.heap.size:=by simp
  have au:=(ye.1 t.o).1
  have bn:g.heap.size<=q.heap.size:=by have:=p.o.size;exact this
  have a7:SN (fun k=>v0.heap.size<=k∧k < q.heap.size) q ⟨I,S,hc⟩ ((Tb.of x).at c):=by
   have hd:=av.o
   have hh:=E.o
   have H:=Y.o
   rw[<-hh]
   unfold WK Tb.at
   obtain rfl|rfl|rfl|rfl:c=0∨c=1∨c=2∨c=3:=by omega
   ·exact hd.lets
   ·exact hd.crops
   ·exact hd.reaches
   ·exact hd.farms
  refine am.o q.heap.size ⟨I,S,hc⟩ _ _ (by have:=R.o;omega) (by rw[y];exact au) (by rw[ap];rfl) (a7.to (fun k hk=>?_) ?_ (fun k hk=>?_)) ?_ ⟨rfl,rfl,rfl,rfl,rfl,rfl⟩
  ·have aq:k≠q.heap.size:=by have:=hk.2;omega
   exact (yT _ _ _ _ aq).trans (m.o.block k hk.2)
  ·rw[y];exact m.o.size
  ·rw[y]
   have:=r.o.size;have:=R.o;have:=m.o.size
   exact ⟨by have:=hk.1;omega,by have:=hk.2;omega⟩
  ·have a:=O.o
   exact ⟨a.os,a.tape,a.output,by rw[y];exact a.size,fun k hk=>(yT _ _ _ _ (by simp only;omega)).trans (a.block k hk)⟩
 ·rw[yw (by rfl)]
  go_simp
  obtain ⟨q,ag⟩:∃z:World,z=v0.alloc (.cells j9 43):=⟨_,rfl⟩
  have HX:Hid (q.heap[v0.heap.size]?=some (.cells j9 43 (0,0))):=yb (by rw[ag];exact World.alloc_heap_new _ _)
  have D:Hid (Below v0.heap.size v0 q):=yb (by rw[ag];exact (yg _ _).alloc (yf _) _)
  have p:Hid (Below g.heap.size g q):=yb (r.o.trans (D.o.mono r.o.size))
  change K _ (v0.alloc (.cells j9 43))
  rw[<-ag]
  clear ag
  refine d.o _ _ (fun _=>p.o) ?_
  clear d K
  refine A0 (i:=1) (by kernel_rfl) rfl (fun K d=>?_)
  go_simp
  refine (bb.o q p.o).mono ?_
  rintro e A ⟨h0,h1,h2,h3,rfl,a1,C⟩
  have av:=yb a1;have O:Hid (Below g.heap.size g A):=yb (p.o.trans (C.mono p.o.size));have m:=yb C
  clear a1 C
  refine d.o _ _ (fun _=>O.o) ?_
  clear d K
  obtain ⟨⟨I,S,hc⟩,a2⟩:∃h:Ai,WK (h0,h1,h2,h3) c=h:=⟨_,rfl⟩
  have E:=yb a2
  clear a2
  refine A1 (i:=3) (v:=.slice I S hc) rfl (by kernel_rfl) (by kernel_rfl) (by kernel_rfl) (fun _ _ _ h=>h) (by kernel_rfl) (Or.inl ⟨by rfl,?_⟩) (fun _=>O.o) ?_
  ·intro w _
   have H:=Y.o
   rw[show Value.slice I S hc=(WK (h0,h1,h2,h3) c).v from (yJ Ai.v E.o).symm]
   clear E
   obtain rfl|rfl|rfl|rfl:c=0∨c=1∨c=2∨c=3:=by omega
   all_goals (go_simp;rfl)
  have t:Hid (A.heap[v0.heap.size]?=some (.cells j9 43 (0,0))):=yb ((m.o.block _ (ye.1 HX.o).1).trans HX.o)
  have bu:A.cell? (aV v0.heap.size 0)=some (.slice none 0 0):=by simp[World.cell?,t.o]
  have bm:A.frozen? (aV v0.heap.size 0)=false:=by simp[World.frozen?,t.o]
  refine A0 (i:=5) (by kernel_rfl) rfl (fun K d=>?_)
  rw[yw (by rfl)]
  go_simp
  refine d.o _ _ (by intro h;cases h) ?_
  clear d K
  refine AF (by kernel_rfl) ?_
  refine NoPanic.normal ?_
  refine bd.o _ _ ?_
  refine Dt (P:=fun l=>Code.wp Try.prog _ _ ⟨l,[]⟩ _) rfl ?_
  have ap:=z7 A v0.heap.size 0 _ _ (.slice I S hc) t.o
  have y:(A.setCell (aV v0.heap.size 0) (.slice I S hc)).heap.size=A.heap.size:=by simp
  have au:=(ye.1 t.o).1
  have bn:g.heap.size<=v0.heap.size:=by have:=r.o.size;exact this
  have a7:SN (fun k=>q.heap.size<=k∧k < A.heap.size) A ⟨I,S,hc⟩ ((Tb.of x).at c):=by
   have hd:=av.o
   have hh:=E.o
   have H:=Y.o
   rw[<-hh]
   unfold WK Tb.at
   obtain rfl|rfl|rfl|rfl:c=0∨c=1∨c=2∨c=3:=by omega
   ·exact hd.lets
   ·exact hd.crops
   ·exact hd.reaches
   ·exact hd.farms
  refine am.o v0.heap.size ⟨I,S,hc⟩ _ _ (by have:=R.o;omega) (by rw[y];exact au) (by rw[ap];rfl) (a7.to (fun k hk=>?_) ?_ (fun k hk=>?_)) ?_ ⟨rfl,rfl,rfl,rfl,rfl,rfl⟩
  ·have aq:k≠v0.heap.size:=by have:=hk.1;have:=(ye.1 HX.o).1;omega
   exact (yT _ _ _ _ aq)
  ·rw[y];exact yf _
  ·rw[y]
   have:=p.o.size;have:=R.o
   exact ⟨by have:=hk.1;omega,by have:=hk.2;omega⟩
  ·have a:=O.o
   exact ⟨a.os,a.tape,a.output,by rw[y];exact a.size,fun k hk=>(yT _ _ _ _ (by simp only;omega)).trans (a.block k hk)⟩
end Go.Proofs.Ytghepahgkcigpaa
