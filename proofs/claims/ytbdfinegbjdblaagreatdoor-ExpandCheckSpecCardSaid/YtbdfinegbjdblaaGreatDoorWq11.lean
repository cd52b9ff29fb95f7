/- Parts of the proof, in short words: Kx Ck -/
import Derived.Test.YtbdfinegbjdblaaGreatDoorWq0
import Derived.Test.YtbdfinegbjdblaaGreatDoorWq10
import Derived.Test.YtbdfinegbjdblaaGreatDoorWq9
set_option linter.unusedSimpArgs false
namespace Go.Proofs.YtbdfinegbjdblaaGreatDoor
open Go.RowKit
def G7{α β γ:Type}(f:Nat->α->Jf β)(add:γ->β->γ):Nat->List α->γ->Jf γ
 |_,[],d,vs=>some (d,vs)
 |i,a::r,d,vs=>(f i a vs).bind λq=>G7 f add (i+1) r (add d q.1) q.2
theorem Ev{α β γ:Type}(f:Nat->α->Jf β)(add:γ->β->γ)(c:γ->List β->γ)(h0:∀d,c d []=d)(h1:∀d b l,c (add d b) l=c d (b::l)):∀(l:List α) (i:Nat) (d:γ) (vs:List Rt),G7 f add i l d vs=(G5 f i l vs).map λq=>(c d q.1,q.2)
 |[],i,d,vs=>by rw[G7,G5,zR,h0]
 |a::r,i,d,vs=>by
  rw[G7,G5]
  cases f i a vs with
  |none=>rfl
  |some q=>
   rw[zS,Ev f add c h0 h1 r (i+1)]
   dsimp only
   cases G5 f (i+1) r q.2 with
   |none=>rfl
   |some p=>simp[h1]
def Js{α β γ ρ:Type}(f:Nat->α->Jf β)(add:γ->β->γ)(next:γ->Jf ρ)(l:List α)(o:Option (ρ × List Rt))(i:Nat)(d:γ)(vs:List Rt):Prop:=o=(G7 f add i (l.drop i) d vs).bind λq=>next q.1 q.2
section
variable{α β γ ρ:Type}{f:Nat->α->Jf β}{add:γ->β->γ}{next:γ->Jf ρ}{l:List α}{o:Option (ρ × List Rt)}{i:Nat}{d:γ}{vs vs':List Rt}{b:β}
theorem Js.step(h:Js f add next l o i d vs)(hi:i < l.length)(hf:f i l[i] vs=some (b,vs')):Js f add next l o (i+1) (add d b) vs':=by
 unfold Js at h |-
 rw[h,zy hi,G7,hf]
 rfl
theorem Js.bad(h:Js f add next l o i d vs)(hi:i < l.length)(hf:f i l[i] vs=none):o=none:=by
 unfold Js at h
 rw[h,zy hi,G7,hf]
 rfl
theorem Js.done(h:Js f add next l o l.length d vs):o=next d vs:=by
 unfold Js at h
 rw[h,xE]
 rfl
theorem Js.start(h:o=(G7 f add 0 l d vs).bind λq=>next q.1 q.2):Js f add next l o 0 d vs:=h
end
def Lq(d:Bk)(b:QI):Bk:={d with crops:=d.crops++[b]}
def Lr(d:Bk)(b:Jn):Bk:={d with reaches:=d.reaches++[b]}
def Io(d:Bk)(b:QH):Bk:={d with farms:=d.farms++[b]}
def Ls(d:Bk)(b:List CA):Bk:={d with rights:=d.rights++b}
def Lt(d:Bk)(b:CA):Bk:={d with rights:=d.rights++[b]}
def Lu(d:Bk)(b:QJ):Bk:={d with duties:=d.duties++[b]}
def X0(d:Bk):Jf Bk:=λvs=>some (d,vs)
def UU(x:AM)(d:Bk):Jf Bk:=λvs=>(G7 Sr Lu 0 x.duties d vs).bind λq=>X0 q.1 q.2
def UW(x:AM)(d:Bk):Jf Bk:=λvs=>(G7 (Pj d.hours) Lt 0 x.rights d vs).bind λq=>UU x q.1 q.2
def UX(x:AM)(d:Bk):Jf Bk:=λvs=>(G7 (λ_=>Is x.farms) Ls 0 x.rots d vs).bind λq=>UW x q.1 q.2
def UY(x:AM)(d:Bk):Jf Bk:=λvs=>(G7 NF Io 0 x.farms d vs).bind λq=>UX x q.1 q.2
def UZ(x:AM)(d:Bk):Jf Bk:=λvs=>(G7 Sq Lr 0 x.reaches d vs).bind λq=>UY x q.1 q.2
def V0(x:AM)(d:Bk):Jf Bk:=λvs=>(G7 Sp Lq 0 x.crops d vs).bind λq=>UZ x q.1 q.2
def Zb(x:AM)(d:Bk):Jf Bk:=λvs=>(G7 QK (λd _=>d) 0 x.lets d vs).bind λq=>V0 x q.1 q.2
theorem X1(x:AM)(a c e:Rt)(r:List Rt):FE x (a::c::e::r)=if a.d<=1/\c.d<=1/\e.d<=1 then Zb x ⟨x.name,a.n,c.n,e.n,[],[],[],[],[]⟩ r else none:=by
 by_cases h0:a.d<=1
 ·by_cases h1:c.d<=1
  ·by_cases h2:e.d<=1
   ·rw[yz ⟨h0,h1,h2⟩]
    unfold FE Uw
    simp only[BE,h0,h1,h2,xi,bind,Option.bind,pure]
    unfold Zb
    rw[Ev _ _ (λd _=>d) (λ_=>rfl) (λ_ _ _=>rfl)]
    cases G5 QK 0 x.lets r with
    |none=>rfl
    |some q0=>
    simp only[zR,zS]
    unfold V0
    rw[Ev _ _ (λd l=>{d with crops:=d.crops++l}) (λd=>by simp) (λd b l=>by simp[Lq])]
    cases G5 Sp 0 x.crops q0.2 with
    |none=>rfl
    |some q1=>
    simp only[zR,zS]
    unfold UZ
    rw[Ev _ _ (λd l=>{d with reaches:=d.reaches++l}) (λd=>by simp) (λd b l=>by simp[Lr])]
    cases G5 Sq 0 x.reaches q1.2 with
    |none=>rfl
    |some q2=>
    simp only[zR,zS]
    unfold UY
    rw[Ev _ _ (λd l=>{d with farms:=d.farms++l}) (λd=>by simp) (λd b l=>by simp[Io])]
    cases G5 NF 0 x.farms q2.2 with
    |none=>rfl
    |some q3=>
    simp only[zR,zS]
    unfold UX
    rw[Ev _ _ (λd l=>{d with rights:=d.rights++l.flatten}) (λd=>by simp) (λd b l=>by simp[Ls])]
    cases G5 (λ_=>Is x.farms) 0 x.rots q3.2 with
    |none=>rfl
    |some q4=>
    simp only[zR,zS]
    unfold UW
    rw[Ev _ _ (λd l=>{d with rights:=d.rights++l}) (λd=>by simp) (λd b l=>by simp[Lt])]
    dsimp only
    cases G5 (Pj a.n) 0 x.rights q4.2 with
    |none=>rfl
    |some q5=>
    simp only[zR,zS]
    unfold UU
    rw[Ev _ _ (λd l=>{d with duties:=d.duties++l}) (λd=>by simp) (λd b l=>by simp[Lu])]
    cases G5 Sr 0 x.duties q5.2 with
    |none=>rfl
    |some q6=>simp[X0,Ws]
   rw[ym (by omega)];simp[FE,Uw,BE,h0,h1,h2]
  rw[ym (by omega)];simp[FE,Uw,BE,h0,h1]
 rw[ym (by omega)];simp[FE,Uw,BE,h0]
def Vb(v:Rt):Prop:= -1073741824<=v.n/\v.n<=1073741824
theorem Nb:Vb Ja:=⟨by decide,by decide⟩
theorem Yf(n d:Int):Vb (Gm n d).1:=by
 unfold Gm
 split
 ·exact Nb
 split
 ·exact Nb
 rename_i h
 have a:((n.natAbs / Int.gcd n d:Nat):Int)<=Dv:=Int.le_trans (Int.le_max_left _ _) (Int.not_lt.1 h)
 have h0:(0:Int)<=((n.natAbs / Int.gcd n d:Nat):Int):=Int.natCast_nonneg _
 unfold Dv at a
 unfold Vb
 dsimp only
 generalize ((n.natAbs / Int.gcd n d:Nat):Int)=z at a h0 |-
 split<;>omega
theorem Zd(op:Int)(a b:Rt):Vb (RF op a b).1:=by
 unfold RF
 split
 ·exact Yf _ _
 exact Nb
theorem Ze(op:Int)(a b:Qn × Bool):Vb (Yz op a b).1.v:=by
 unfold Yz
 split
 ·dsimp only
  split
  ·split
   ·exact Nb
   split
   ·exact Nb
   exact Zd _ _ _
  exact Nb
 exact Nb
theorem X6(n u:Int)(h0:0<=n):Vb (Ny n u).v:=by
 unfold Ny
 split
 ·exact Nb
 rename_i h
 have a:Fo u=1000\/Fo u=24\/Fo u=1:=by
  unfold Fo
  split
  ·exact .inl rfl
  split
  ·exact .inr (.inl rfl)
  exact .inr (.inr rfl)
 unfold Dv at h
 unfold Vb
 dsimp only
 rcases a with e|e|e<;>rw[e] at h |-<;>omega
theorem YJ{a:List Kn}(b:∀k∈a,Vb k.q.v):∀(left:Nat) (e:Ex),Vb (Gc a left e).1.v:=by
 intro left
 induction left with
 |zero=>
  intro e
  obtain ⟨op,n,u,rn,ri,args⟩:=e
  unfold Gc
  split
  ·split
   ·rename_i h;exact X6 _ _ h.2.2.1
   exact Nb
  split
  ·split
   ·unfold Jz
    split
    ·rename_i k h
     split
     ·exact b _ (zV h)
     exact Nb
    exact Nb
   exact Nb
  exact Nb
 |succ m ih=>
  intro e
  obtain ⟨op,n,u,rn,ri,args⟩:=e
  unfold Gc
  split
  ·split
   ·rename_i h;exact X6 _ _ h.2.2.1
   exact Nb
  split
  ·split
   ·unfold Jz
    split
    ·rename_i k h
     split
     ·exact b _ (zV h)
     exact Nb
    exact Nb
   exact Nb
  split
  ·split
   ·exact Ze _ _ _
   exact Nb
  exact Nb
theorem Ru:∀(r:List (ByteArray × Ex)) (l:List Kn),(∀k∈l,Vb k.q.v)->∀k∈AK l r,Vb k.q.v
 |[],l,h=>by rw[AK];exact h
 |d::r,l,h=>by
  rw[AK]
  refine Ru r _ λk a=>?_
  rcases yO.1 a with a|a
  ·exact h k a
  rw[zu.1 a];exact YJ h 8 d.2
theorem X7(x:AM)(e:Ex):Vb (FD x e).1:=by
 unfold FD
 split
 ·unfold Ki
  split
  ·split
   ·exact YJ (Ru _ _ (by simp)) 8 e
   exact Nb
  exact Nb
 exact Nb
theorem Ku(x:AM):∀(l:List Ex) (vs:List Rt),DC x l=.ok vs->vs.length=l.length/\∀v∈vs,Vb v
 |[],vs,h=>by rw[DC] at h;cases h;exact ⟨rfl,by simp⟩
 |e::r,vs,h=>by
  rw[DC] at h
  split at h
  ·cases a:DC x r with
   |error k=>rw[a] at h;cases h
   |ok l=>
    rw[a] at h;cases h
    obtain ⟨h1,h2⟩:=Ku x r l a
    exact ⟨by simp[h1],λv b=>(yq.1 b).elim (λe=>e▸Nb) (h2 v)⟩
  split at h
  ·cases a:DC x r with
   |error k=>rw[a] at h;cases h
   |ok l=>
    rw[a] at h;cases h
    obtain ⟨h1,h2⟩:=Ku x r l a
    exact ⟨by simp[h1],λv b=>(yq.1 b).elim (λe=>e▸X7 x _) (h2 v)⟩
  cases h
def Iv(x:AM)(e:Ex):Rt × Int:=if e.op=0 then (Ja,0) else FD x e
theorem Hh(x:AM)(e:Ex)(r:List Ex):DC x (e::r)=if (Iv x e).2=0 then (match DC x r with
  |.ok l=>.ok ((Iv x e).1::l)
  |.error k=>.error k) else .error (Iv x e).2:=by
 rw[DC]
 unfold Iv
 by_cases h:e.op=0
 ·simp only[yz h,xi];rfl
 simp only[ym h];rfl
theorem KX(x:AM)(e:Ex):∀(l:List Ex) (vs:List Rt),DC x l=.ok vs->DC x (l++[e])=if (Iv x e).2=0 then .ok (vs++[(Iv x e).1]) else .error (Iv x e).2
 |[],vs,h=>by
  rw[DC] at h;cases h
  rw[yS,Hh]
  rfl
 |a::r,vs,h=>by
  rw[Hh] at h
  rw[yQ,Hh]
  split at h
  ·rename_i h0
   rw[yz h0]
   cases b:DC x r with
   |error k=>rw[b] at h;cases h
   |ok l=>
    rw[b] at h;cases h
    rw[KX x e r l b]
    by_cases h1:(Iv x e).2=0
    ·rw[yz h1,yz h1];rfl
    rw[ym h1,ym h1]
  cases h
theorem Rv(x:AM)(m:List Ex){k:Int}:∀(l:List Ex),DC x l=.error k->DC x (l++m)=.error k
 |[],h=>by rw[DC] at h;cases h
 |a::r,h=>by
  rw[Hh] at h
  rw[yQ,Hh]
  split at h
  ·rename_i h0
   rw[yz h0]
   cases b:DC x r with
   |error k2=>rw[b] at h;cases h;rw[Rv x m r b]
   |ok l=>rw[b] at h;cases h
  rename_i h0
  rw[ym h0];exact h
theorem SU{x:AM}(h:BO x=0):AU x=0/\YC (Tb.of x) x:=by
 unfold BO at h
 have hw:AU x=0:=by
  by_cases h0:AU x=0
  ·exact h0
  rw[ym h0] at h;exact h
 rw[yz hw] at h
 refine ⟨hw,(Uu (t:=Tb.of x) x).1 ?_⟩
 by_cases h1:CE x=CE (Ax x)
 ·exact h1
 rw[ym h1] at h;cases h
theorem Zf{t:Tb}{tq at_:Int}{r:Rf}(h0:tq≠0)(h:KG t tq at_ r=true):0<=(gT t tq r).n/\(gT t tq r).n < (t.tab (Ew tq)).length:=by
 unfold KG at h
 rw[ym h0] at h
 unfold gT Hu
 rw[ym h0]
 cases a:Dj (t.tab (Ew tq)) r.name with
 |none=>simp only[a] at h;cases h
 |some p=>
  have:=Qm a
  dsimp only
  omega
theorem X8{x:AM}(h:BO x=0):∀r∈x.rots,∀k∈r.turns,0<=k.farm.n/\k.farm.n < x.farms.length:=by
 obtain ⟨hw,i⟩:=SU h
 obtain ⟨_,_,_,_,b⟩:=F6 hw
 unfold D6 at b
 simp only[yw,zj] at b
 intro r hr k f
 have c:=b.2.2.2.1 r hr
 unfold Q9 at c
 simp only[yw,zj] at c
 have hi:=Zf (by decide) (c.2 k f)
 have a:=Je (λd _=>Li (t:=Tb.of x) d) i.rots r hr
 have g:(r.turns.flatMap λk=> [k.farm])=r.turns.flatMap λk=> [(C6.mp (fT (Tb.of x)) (gT (Tb.of x)) 0 k).farm]:=by
  unfold DN Bq.mp at a
  simp only[zZ] at a
  rw[Et (λ_ _=>rfl) r.turns] at a
  exact a.2
 have e:=Je (p:=λk:C6=> [k.farm]) (q:=λk=> [(C6.mp (fT (Tb.of x)) (gT (Tb.of x)) 0 k).farm]) (λ_ _=>rfl) g k f
 simp only[zZ,qp] at e
 rw[e]
 have j:((Tb.of x).tab (Ew 5)).length=x.farms.length:=by
  have:(Tb.of x).tab (Ew 5)=x.farms.map (·.name):=rfl
  rw[this,zh]
 rw[j] at hi
 exact hi
end Go.Proofs.YtbdfinegbjdblaaGreatDoor
