/- The iterator over a source's expressions: the walk. -/
import Derived.Test.YtbdfinegbjdblaaGreatDoorWq0
import Derived.Deep.RegionHeld2
import Derived.StillTailTactics
set_option maxRecDepth 100000
set_option maxHeartbeats 16000000
set_option linter.unusedSimpArgs false
namespace Go.Proofs.YtbdfinegbjdblaaGreatDoor
open Go.RowKit
def YO(J:Nat->NP->World->Prop)(Jx:NP->World->Prop)(Jp:List PanicEntry->NP->World->Prop)(k:Nat)(e:Ending)(W':World):Prop:=
 ((∃v,e=.returned v)/\((∃O,J k O W')\/∃O,Jx O W'))\/∃a,e=.panicked a/\∃O,Jp a O W'
theorem Jt.start{n l:Nat}{P:Program}{xs:List (Array Value)}{Hd:World->Prop}{J:Nat->NP->World->Prop}{Jx:NP->World->Prop}{Jp:List PanicEntry->NP->World->Prop}{W0:World}(hc:aF n l P xs Hd J Jx Jp W0)(h0:J 0 (λ_=>False) W0)(t:TypeId):
  Jt J W0 l W0.heap.size 0 (λb=>False\/(W0.heap.size<=b/\b < (W0.alloc (.cells #[.func (.yield l) #[] #[]] t)).heap.size)) (W0.alloc (.cells #[.func (.yield l) #[] #[]] t)):=
 ⟨CY hc.stays h0 ((yg _ _).alloc (yi _) _),.inr ⟨yi _,by simp⟩,by
  have:(W0.alloc (.cells #[.func (.yield l) #[] #[]] t)).heap[W0.heap.size]?=some (.cells #[.func (.yield l) #[] #[]] t (0,0)):=World.alloc_heap_new _ _
  simp only[World.cell?,this];simp,by simp,λb hb=>by rcases hb with hb|hb;exact hb.elim;exact hb⟩
theorem RT(n:Nat)(hn:1<=n)(l Bs:Nat)(L:BQ)(hL:L.Ok)(J:Nat->NP->World->Prop)(Jx:NP->World->Prop)(Jp:List PanicEntry->NP->World->Prop)(W0:World)
 (hc:aF (n - 1) l Tryz.prog (Cd L) (K3 L Bs) J Jx Jp W0)(h0:J 0 (λ_=>False) W0):
  Calls Tryz.prog 124 #[.func (.yield l) #[] #[],.pointer (some ⟨Bs,0,none⟩)] W0 (YO J Jx Jp (Cd L).length):=by
 have an:∀(fn:Fn) (first cap:Array Value) (w:World),(Instr.makeFunc fn first cap).run Tryz.prog w=.ok (.func fn first cap) w:=λ_ _ _ _=>rfl
 have x:=yb hc
 have W:=yb hL
 have HI:=yb (Jt.start hc h0 205)
 obtain ⟨X,hX⟩:∃X,X=Cd L:=⟨_,rfl⟩
 have HX:=yb hX
 rw[<-hX] at x |-
 clear hc hL h0 hX
 go_enter Tryz.func124,Tryz.ntmps124
 go_wp2_with fail
 generalize hw:W0.alloc (.cells #[.func (.yield l) #[] #[]] 205)=w1 at HI |-
 clear hw
 generalize W0.heap.size=Bc at HI |-
 have HH:=yb (x.o.hd _ _ _ HI.o.j)
 have F:=yb (HI.o.below x.o (yg _ _).drew)
 have I:=yb (x.o.hd _ _ _ F.o.j)
 have T:=yb (x.o.hd _ _ _ (HI.o.below x.o (((yg _ _).alloc (yi _) (.cells #[pV L.s 1,pV L.s 7,pV L.s 13] 206)).drew)).j)
 have ad:Hid (∃post,X=[]++((#[pV L.s 1,pV L.s 7,pV L.s 13]:Array Value).toList.map (λp=>#[p,iV 0])++post)):=yb ⟨_,by rw[HX.o];rfl⟩
 go_region_held2 (λw'=>w'.cell? (aV Bs 0)=some (pV L.s 0)) (first|exact I.o.box|exact T.o.box|exact N.o.box)
  (first|(go_at_call 125;refine (E1 x.o hn (pre:=[]) F.o 0 _ 3 rfl _ ad.o (by decide) (by simp) _ rfl).mono ?_;rintro e w2 (⟨r,rfl,hr⟩|⟨V,rfl,C⟩);rotate_left;exact ⟨rfl,.inr ⟨V,rfl,C⟩⟩;have N:=yb (hr.elim (λh=>h.2.elim λO h=>x.o.hd _ _ _ h.j) (λh=>h.2.elim λO h=>x.o.hdx _ _ h));have G:=yb hr;clear hr))
 rcases G.o with ⟨rfl,O2,ah⟩|⟨rfl,O2,ae⟩
 case inr=>
  have aj:=yb ae
  clear ae G N
  go_wp2
  refine zH (zr rfl _ _ _) rfl ?_
  exact .inl ⟨⟨_,rfl⟩,.inr ⟨_,aj.o⟩⟩
 have K:Hid (∃O,Jt J W0 l Bc (many (Au L.s)++AF L 0).length O w2):=yb ⟨O2,ah⟩
 clear ah G F I T ad HI HH
 have d:=N.o.box
 have a:=N.o.lets
 unfold AA.v at a
 go_wp2_with fail
 clear N d a
 go_loopw [34] (λH wr=>∃i:Nat,i<=L.lets.n/\H=iV i/\Hid (∃O,Jt J W0 l Bc (many (Au L.s)++AF L i).length O wr)) (λH _=>L.lets.n - (intOf H).toNat)
 case atStart=>exact ⟨0,yC _,rfl,K⟩
 clear K
 obtain ⟨i,hi,rfl,c⟩:=hrel
 have f:=yb (c.o.elim λO h=>x.o.hd _ _ _ h.j)
 have d:=f.o.box
 by_cases q:i < L.lets.n
 ·obtain ⟨b,o,R,g⟩:=W.o.lets.get q
  have a:=f.o.lets
  unfold AA.v at a
  rw[R] at a
  have a1:(i:Int) < (L.lets.n:Int):=by omega
  have Q:L.lets.n<=140737488355328:=W.o.lets.1
  have y:(λi=> [#[L.lets.ptr 7 i 1,iV (1+(i:Int))]]) i=((#[pV b (o+i*7+1)]:Array Value).toList.map (λp=>#[p,iV (1+(i:Int))])):=by
   simp only[AA.ptr,g,zN,qc]
  have HP:Hid (∃post,X=(many (Au L.s)++AF L i)++((#[pV b (o+i*7+1)]:Array Value).toList.map (λp=>#[p,iV (1+(i:Int))])++post)):=yb (by
   obtain ⟨post,C⟩:=BW (λi=> [#[L.lets.ptr 7 i 1,iV (1+(i:Int))]]) q
   have E:AF L L.lets.n=AF L i++((#[pV b (o+i*7+1)]:Array Value).toList.map (λp=>#[p,iV (1+(i:Int))])++post):=C.trans (yN (λz=>AF L i++(z++post)) y)
   refine ⟨(post++((Av L L.crops.n++(Ak L L.reaches.n++(AG L L.farms.n++(Bw L L.rots.n++(B8 L L.rights.n++BM L L.duties.n))))))),?_⟩
   rw[HX.o]
   unfold Cd
   rw[E]
   simp only[yX])
  clear y
  have U:=yb g
  clear g R
  obtain ⟨O,m⟩:=c.o
  have S:=yb m
  clear m
  go_wp2_with fail
  refine (E1 x.o hn (pre:=many (Au L.s)++AF L i) S.o (1+(i:Int)) #[pV b (o+i*7+1)] 1 rfl _ HP.o (by decide) (by simp) _ rfl).mono ?_
  rintro e w3 (⟨r,rfl,hr⟩|⟨V,rfl,C⟩)
  rotate_left
  ·exact ⟨rfl,.inr ⟨V,rfl,C⟩⟩
  have G:=yb hr
  clear hr d a
  rcases G.o with ⟨rfl,M,h3⟩|⟨rfl,M,u⟩
  ·have t:Hid (∃O,Jt J W0 l Bc (many (Au L.s)++AF L (i+1)).length O w3):=yb ⟨M,by
    have Z:(AF L (i+1)).length=(AF L i).length+1:=by rw[show AF L (i+1)=AF L i++_ from Aw _ i,yn];rfl
    have e:(many (Au L.s)++AF L (i+1)).length=(many (Au L.s)++AF L i).length+1:=by simp only[yn,Z];omega
    rw[e];exact h3⟩
   clear h3 G
   go_wp2
   first
   |exact ⟨⟨i+1,by omega,by go_num,t⟩,by simp[intOf];omega⟩
   |(refine ⟨?_,by simp[intOf];omega⟩;(repeat apply @Exists.intro Value);exact ⟨⟨i+1,by omega,by go_num,t⟩,rfl⟩)
  have D:=yb u
  clear u
  go_wp2
  refine zH (zr rfl _ _ _) rfl ?_
  exact .inl ⟨⟨_,rfl⟩,.inr ⟨_,D.o⟩⟩
 have A:i=L.lets.n:=by omega
 rw[A] at c
 have K:Hid (∃O,Jt J W0 l Bc ((many (Au L.s)++AF L L.lets.n)++Av L 0).length O wr):=yb (by
  have:=c.o
  rw[show ((many (Au L.s)++AF L L.lets.n)++Av L 0).length=(many (Au L.s)++AF L L.lets.n).length by simp[Av]]
  exact this)
 clear c A
 have a:=f.o.crops
 unfold AA.v at a
 clear f
 go_wp2_with fail
 clear d a
 go_loopw [56] (λH wr=>∃i:Nat,i<=L.crops.n/\H=iV i/\Hid (∃O,Jt J W0 l Bc ((many (Au L.s)++AF L L.lets.n)++Av L i).length O wr)) (λH _=>L.crops.n - (intOf H).toNat)
 case atStart=>exact ⟨0,yC _,rfl,K⟩
 clear K
 obtain ⟨i,hi,rfl,c⟩:=hrel
 have f:=yb (c.o.elim λO h=>x.o.hd _ _ _ h.j)
 have d:=f.o.box
 by_cases q:i < L.crops.n
 ·obtain ⟨b,o,R,g⟩:=W.o.crops.get q
  have a:=f.o.crops
  unfold AA.v at a
  rw[R] at a
  have a1:(i:Int) < (L.crops.n:Int):=by omega
  have Q:L.crops.n<=140737488355328:=W.o.crops.1
  have y:(λi=>many [L.crops.ptr 7 i 1]) i=((#[pV b (o+i*7+1)]:Array Value).toList.map (λp=>#[p,iV 0])):=by
   simp only[many,AA.ptr,g,zN,qc]
  have HP:Hid (∃post,X=((many (Au L.s)++AF L L.lets.n)++Av L i)++((#[pV b (o+i*7+1)]:Array Value).toList.map (λp=>#[p,iV 0])++post)):=yb (by
   obtain ⟨post,C⟩:=BW (λi=>many [L.crops.ptr 7 i 1]) q
   have E:Av L L.crops.n=Av L i++((#[pV b (o+i*7+1)]:Array Value).toList.map (λp=>#[p,iV 0])++post):=C.trans (yN (λz=>Av L i++(z++post)) y)
   refine ⟨(post++((Ak L L.reaches.n++(AG L L.farms.n++(Bw L L.rots.n++(B8 L L.rights.n++BM L L.duties.n)))))),?_⟩
   rw[HX.o]
   unfold Cd
   rw[E]
   simp only[yX])
  clear y
  have U:=yb g
  clear g R
  obtain ⟨O,m⟩:=c.o
  have S:=yb m
  clear m
  go_wp2_with fail
  refine (E1 x.o hn (pre:=(many (Au L.s)++AF L L.lets.n)++Av L i) S.o 0 #[pV b (o+i*7+1)] 1 rfl _ HP.o (by decide) (by simp) _ rfl).mono ?_
  rintro e w3 (⟨r,rfl,hr⟩|⟨V,rfl,C⟩)
  rotate_left
  ·exact ⟨rfl,.inr ⟨V,rfl,C⟩⟩
  have G:=yb hr
  clear hr d a
  rcases G.o with ⟨rfl,M,h3⟩|⟨rfl,M,u⟩
  ·have t:Hid (∃O,Jt J W0 l Bc ((many (Au L.s)++AF L L.lets.n)++Av L (i+1)).length O w3):=yb ⟨M,by
    have Z:(Av L (i+1)).length=(Av L i).length+1:=by rw[show Av L (i+1)=Av L i++_ from Aw _ i,yn];rfl
    have e:((many (Au L.s)++AF L L.lets.n)++Av L (i+1)).length=((many (Au L.s)++AF L L.lets.n)++Av L i).length+1:=by simp only[yn,Z];omega
    rw[e];exact h3⟩
   clear h3 G
   go_wp2
   first
   |exact ⟨⟨i+1,by omega,by go_num,t⟩,by simp[intOf];omega⟩
   |(refine ⟨?_,by simp[intOf];omega⟩;(repeat apply @Exists.intro Value);exact ⟨⟨i+1,by omega,by go_num,t⟩,rfl⟩)
  have D:=yb u
  clear u
  go_wp2
  refine zH (zr rfl _ _ _) rfl ?_
  exact .inl ⟨⟨_,rfl⟩,.inr ⟨_,D.o⟩⟩
 have A:i=L.crops.n:=by omega
 rw[A] at c
 have K:Hid (∃O,Jt J W0 l Bc (((many (Au L.s)++AF L L.lets.n)++Av L L.crops.n)++Ak L 0).length O wr):=yb (by
  have:=c.o
  rw[show (((many (Au L.s)++AF L L.lets.n)++Av L L.crops.n)++Ak L 0).length=((many (Au L.s)++AF L L.lets.n)++Av L L.crops.n).length by simp[Ak]]
  exact this)
 clear c A
 have a:=f.o.reaches
 unfold AA.v at a
 clear f
 go_wp2_with fail
 clear d a
 go_loopw [76] (λH wr=>∃i:Nat,i<=L.reaches.n/\H=iV i/\Hid (∃O,Jt J W0 l Bc (((many (Au L.s)++AF L L.lets.n)++Av L L.crops.n)++Ak L i).length O wr)) (λH _=>L.reaches.n - (intOf H).toNat)
 case atStart=>exact ⟨0,yC _,rfl,K⟩
 clear K
 obtain ⟨i,hi,rfl,c⟩:=hrel
 have f:=yb (c.o.elim λO h=>x.o.hd _ _ _ h.j)
 have d:=f.o.box
 by_cases q:i < L.reaches.n
 ·obtain ⟨b,o,R,g⟩:=W.o.reaches.get q
  have a:=f.o.reaches
  unfold AA.v at a
  rw[R] at a
  have a1:(i:Int) < (L.reaches.n:Int):=by omega
  have Q:L.reaches.n<=140737488355328:=W.o.reaches.1
  have y:(λi=>many (LM L.reaches i)) i=((#[pV b (o+i*51+3),pV b (o+i*51+9),pV b (o+i*51+15),pV b (o+i*51+21),pV b (o+i*51+27),pV b (o+i*51+33),pV b (o+i*51+39),pV b (o+i*51+45)]:Array Value).toList.map (λp=>#[p,iV 0])):=by
   simp only[many,LM,AA.ptr,g,zN,qc]
  have HP:Hid (∃post,X=(((many (Au L.s)++AF L L.lets.n)++Av L L.crops.n)++Ak L i)++((#[pV b (o+i*51+3),pV b (o+i*51+9),pV b (o+i*51+15),pV b (o+i*51+21),pV b (o+i*51+27),pV b (o+i*51+33),pV b (o+i*51+39),pV b (o+i*51+45)]:Array Value).toList.map (λp=>#[p,iV 0])++post)):=yb (by
   obtain ⟨post,C⟩:=BW (λi=>many (LM L.reaches i)) q
   have E:Ak L L.reaches.n=Ak L i++((#[pV b (o+i*51+3),pV b (o+i*51+9),pV b (o+i*51+15),pV b (o+i*51+21),pV b (o+i*51+27),pV b (o+i*51+33),pV b (o+i*51+39),pV b (o+i*51+45)]:Array Value).toList.map (λp=>#[p,iV 0])++post):=C.trans (yN (λz=>Ak L i++(z++post)) y)
   refine ⟨(post++((AG L L.farms.n++(Bw L L.rots.n++(B8 L L.rights.n++BM L L.duties.n))))),?_⟩
   rw[HX.o]
   unfold Cd
   rw[E]
   simp only[yX])
  clear y
  have U:=yb g
  clear g R
  obtain ⟨O,m⟩:=c.o
  go_wp2_with fail
  have F:=yb (m.below x.o (yg _ _).drew)
  have a2:=yb (m.below x.o (((yg _ _).alloc (yi _) (.cells #[pV b (o+i*51+3),pV b (o+i*51+9),pV b (o+i*51+15),pV b (o+i*51+21),pV b (o+i*51+27),pV b (o+i*51+33),pV b (o+i*51+39),pV b (o+i*51+45)] 206)).drew))
  have I:=yb (x.o.hd _ _ _ F.o.j)
  have T:=yb (x.o.hd _ _ _ a2.o.j)
  have P:=I.o.box
  go_region_held2 (λw'=>w'.cell? (aV Bs 0)=some (pV L.s 0)) (first|exact I.o.box|exact T.o.box|exact N.o.box)
   (first|(go_at_call 125;refine (E1 x.o hn (pre:=((many (Au L.s)++AF L L.lets.n)++Av L L.crops.n)++Ak L i) F.o 0 _ 8 rfl _ HP.o (by decide) (by simp) _ rfl).mono ?_;rintro e w3 (⟨r,rfl,hr⟩|⟨V,rfl,C⟩);rotate_left;exact ⟨rfl,.inr ⟨V,rfl,C⟩⟩;have N:=yb (hr.elim (λh=>h.2.elim λO h=>x.o.hd _ _ _ h.j) (λh=>h.2.elim λO h=>x.o.hdx _ _ h));have G:=yb hr;clear hr))
  clear P d a m
  rcases G.o with ⟨rfl,M,h3⟩|⟨rfl,M,u⟩
  ·have t:Hid (∃O,Jt J W0 l Bc (((many (Au L.s)++AF L L.lets.n)++Av L L.crops.n)++Ak L (i+1)).length O w3):=yb ⟨M,by
    have Z:(Ak L (i+1)).length=(Ak L i).length+8:=by rw[show Ak L (i+1)=Ak L i++_ from Aw _ i,yn];rfl
    have e:(((many (Au L.s)++AF L L.lets.n)++Av L L.crops.n)++Ak L (i+1)).length=(((many (Au L.s)++AF L L.lets.n)++Av L L.crops.n)++Ak L i).length+8:=by simp only[yn,Z];omega
    rw[e];exact h3⟩
   clear h3 G
   go_wp2
   first
   |exact ⟨⟨i+1,by omega,by go_num,t⟩,by simp[intOf];omega⟩
   |(refine ⟨?_,by simp[intOf];omega⟩;(repeat apply @Exists.intro Value);exact ⟨⟨i+1,by omega,by go_num,t⟩,rfl⟩)
  have D:=yb u
  clear u
  go_wp2
  refine zH (zr rfl _ _ _) rfl ?_
  exact .inl ⟨⟨_,rfl⟩,.inr ⟨_,D.o⟩⟩
 have A:i=L.reaches.n:=by omega
 rw[A] at c
 have K:Hid (∃O,Jt J W0 l Bc ((((many (Au L.s)++AF L L.lets.n)++Av L L.crops.n)++Ak L L.reaches.n)++AG L 0).length O wr):=yb (by
  have:=c.o
  rw[show ((((many (Au L.s)++AF L L.lets.n)++Av L L.crops.n)++Ak L L.reaches.n)++AG L 0).length=(((many (Au L.s)++AF L L.lets.n)++Av L L.crops.n)++Ak L L.reaches.n).length by simp[AG]]
  exact this)
 clear c A
 have a:=f.o.farms
 unfold AA.v at a
 clear f
 go_wp2_with fail
 clear d a
 go_loopw [123] (λH wr=>∃i:Nat,i<=L.farms.n/\H=iV i/\Hid (∃O,Jt J W0 l Bc ((((many (Au L.s)++AF L L.lets.n)++Av L L.crops.n)++Ak L L.reaches.n)++AG L i).length O wr)) (λH _=>L.farms.n - (intOf H).toNat)
 case atStart=>exact ⟨0,yC _,rfl,K⟩
 clear K
 obtain ⟨i,hi,rfl,c⟩:=hrel
 have f:=yb (c.o.elim λO h=>x.o.hd _ _ _ h.j)
 have d:=f.o.box
 by_cases q:i < L.farms.n
 ·obtain ⟨b,o,R,g⟩:=W.o.farms.get q
  have a:=f.o.farms
  unfold AA.v at a
  rw[R] at a
  have a1:(i:Int) < (L.farms.n:Int):=by omega
  have Q:L.farms.n<=140737488355328:=W.o.farms.1
  have y:(λi=>many [L.farms.ptr 12 i 4]) i=((#[pV b (o+i*12+4)]:Array Value).toList.map (λp=>#[p,iV 0])):=by
   simp only[many,AA.ptr,g,zN,qc]
  have HP:Hid (∃post,X=((((many (Au L.s)++AF L L.lets.n)++Av L L.crops.n)++Ak L L.reaches.n)++AG L i)++((#[pV b (o+i*12+4)]:Array Value).toList.map (λp=>#[p,iV 0])++post)):=yb (by
   obtain ⟨post,C⟩:=BW (λi=>many [L.farms.ptr 12 i 4]) q
   have E:AG L L.farms.n=AG L i++((#[pV b (o+i*12+4)]:Array Value).toList.map (λp=>#[p,iV 0])++post):=C.trans (yN (λz=>AG L i++(z++post)) y)
   refine ⟨(post++((Bw L L.rots.n++(B8 L L.rights.n++BM L L.duties.n)))),?_⟩
   rw[HX.o]
   unfold Cd
   rw[E]
   simp only[yX])
  clear y
  have U:=yb g
  clear g R
  obtain ⟨O,m⟩:=c.o
  have S:=yb m
  clear m
  go_wp2_with fail
  refine (E1 x.o hn (pre:=(((many (Au L.s)++AF L L.lets.n)++Av L L.crops.n)++Ak L L.reaches.n)++AG L i) S.o 0 #[pV b (o+i*12+4)] 1 rfl _ HP.o (by decide) (by simp) _ rfl).mono ?_
  rintro e w3 (⟨r,rfl,hr⟩|⟨V,rfl,C⟩)
  rotate_left
  ·exact ⟨rfl,.inr ⟨V,rfl,C⟩⟩
  have G:=yb hr
  clear hr d a
  rcases G.o with ⟨rfl,M,h3⟩|⟨rfl,M,u⟩
  ·have t:Hid (∃O,Jt J W0 l Bc ((((many (Au L.s)++AF L L.lets.n)++Av L L.crops.n)++Ak L L.reaches.n)++AG L (i+1)).length O w3):=yb ⟨M,by
    have Z:(AG L (i+1)).length=(AG L i).length+1:=by rw[show AG L (i+1)=AG L i++_ from Aw _ i,yn];rfl
    have e:((((many (Au L.s)++AF L L.lets.n)++Av L L.crops.n)++Ak L L.reaches.n)++AG L (i+1)).length=((((many (Au L.s)++AF L L.lets.n)++Av L L.crops.n)++Ak L L.reaches.n)++AG L i).length+1:=by simp only[yn,Z];omega
    rw[e];exact h3⟩
   clear h3 G
   go_wp2
   first
   |exact ⟨⟨i+1,by omega,by go_num,t⟩,by simp[intOf];omega⟩
   |(refine ⟨?_,by simp[intOf];omega⟩;(repeat apply @Exists.intro Value);exact ⟨⟨i+1,by omega,by go_num,t⟩,rfl⟩)
  have D:=yb u
  clear u
  go_wp2
  refine zH (zr rfl _ _ _) rfl ?_
  exact .inl ⟨⟨_,rfl⟩,.inr ⟨_,D.o⟩⟩
 have A:i=L.farms.n:=by omega
 rw[A] at c
 have K:Hid (∃O,Jt J W0 l Bc (((((many (Au L.s)++AF L L.lets.n)++Av L L.crops.n)++Ak L L.reaches.n)++AG L L.farms.n)++Bw L 0).length O wr):=yb (by
  have:=c.o
  rw[show (((((many (Au L.s)++AF L L.lets.n)++Av L L.crops.n)++Ak L L.reaches.n)++AG L L.farms.n)++Bw L 0).length=((((many (Au L.s)++AF L L.lets.n)++Av L L.crops.n)++Ak L L.reaches.n)++AG L L.farms.n).length by simp[Bw]]
  exact this)
 clear c A
 have a:=f.o.rots
 unfold AA.v at a
 clear f
 go_wp2_with fail
 clear d a
 go_loopw [143] (λH wr=>∃i:Nat,i<=L.rots.n/\H=iV i/\Hid (∃O,Jt J W0 l Bc (((((many (Au L.s)++AF L L.lets.n)++Av L L.crops.n)++Ak L L.reaches.n)++AG L L.farms.n)++Bw L i).length O wr)) (λH _=>L.rots.n - (intOf H).toNat)
 case atStart=>exact ⟨0,yC _,rfl,K⟩
 clear K
 obtain ⟨i,hi,rfl,c⟩:=hrel
 have f:=yb (c.o.elim λO h=>x.o.hd _ _ _ h.j)
 have d:=f.o.box
 by_cases q:i < L.rots.n
 ·obtain ⟨b,o,R,g⟩:=W.o.rots.get q
  have a:=f.o.rots
  unfold AA.v at a
  rw[R] at a
  have a1:(i:Int) < (L.rots.n:Int):=by omega
  have Q:L.rots.n<=140737488355328:=W.o.rots.1
  have y:(λi=>many (EU L.rots i)++C8 (Ac L i) (Ac L i).n) i=((#[pV b (o+i*23+4),pV b (o+i*23+10),pV b (o+i*23+16)]:Array Value).toList.map (λp=>#[p,iV 0])++C8 (Ac L i) (Ac L i).n):=by
   simp only[many,EU,AA.ptr,g,zN,qc]
  have HP:Hid (∃post,X=(((((many (Au L.s)++AF L L.lets.n)++Av L L.crops.n)++Ak L L.reaches.n)++AG L L.farms.n)++Bw L i)++((#[pV b (o+i*23+4),pV b (o+i*23+10),pV b (o+i*23+16)]:Array Value).toList.map (λp=>#[p,iV 0])++post)):=yb (by
   obtain ⟨post,C⟩:=BW (λi=>many (EU L.rots i)++C8 (Ac L i) (Ac L i).n) q
   have E:Bw L L.rots.n=Bw L i++((#[pV b (o+i*23+4),pV b (o+i*23+10),pV b (o+i*23+16)]:Array Value).toList.map (λp=>#[p,iV 0])++C8 (Ac L i) (Ac L i).n++post):=C.trans (yN (λz=>Bw L i++(z++post)) y)
   refine ⟨C8 (Ac L i) (Ac L i).n++(post++((B8 L L.rights.n++BM L L.duties.n))),?_⟩
   rw[HX.o]
   unfold Cd
   rw[E]
   simp only[yX])
  clear y
  have U:=yb g
  clear g R
  obtain ⟨O,m⟩:=c.o
  go_wp2_with fail
  have F:=yb (m.below x.o (yg _ _).drew)
  have a2:=yb (m.below x.o (((yg _ _).alloc (yi _) (.cells #[pV b (o+i*23+4),pV b (o+i*23+10),pV b (o+i*23+16)] 206)).drew))
  have I:=yb (x.o.hd _ _ _ F.o.j)
  have T:=yb (x.o.hd _ _ _ a2.o.j)
  have P:=I.o.box
  go_region_held2 (λw'=>w'.cell? (aV Bs 0)=some (pV L.s 0)) (first|exact I.o.box|exact T.o.box|exact N.o.box)
   (first|(go_at_call 125;refine (E1 x.o hn (pre:=((((many (Au L.s)++AF L L.lets.n)++Av L L.crops.n)++Ak L L.reaches.n)++AG L L.farms.n)++Bw L i) F.o 0 _ 3 rfl _ HP.o (by decide) (by simp) _ rfl).mono ?_;rintro e w3 (⟨r,rfl,hr⟩|⟨V,rfl,C⟩);rotate_left;exact ⟨rfl,.inr ⟨V,rfl,C⟩⟩;have N:=yb (hr.elim (λh=>h.2.elim λO h=>x.o.hd _ _ _ h.j) (λh=>h.2.elim λO h=>x.o.hdx _ _ h));have G:=yb hr;clear hr))
  clear P d a m
  rcases G.o with ⟨rfl,M,h3⟩|⟨rfl,M,u⟩
  case inr=>
   have D:=yb u
   clear u
   go_wp2
   refine zH (zr rfl _ _ _) rfl ?_
   exact .inl ⟨⟨_,rfl⟩,.inr ⟨_,D.o⟩⟩
  have K:Hid (∃O,Jt J W0 l Bc ((((((many (Au L.s)++AF L L.lets.n)++Av L L.crops.n)++Ak L L.reaches.n)++AG L L.farms.n)++Bw L i++many (EU L.rots i))++C8 (Ac L i) 0).length O w3):=yb ⟨M,by
   have e:((((((many (Au L.s)++AF L L.lets.n)++Av L L.crops.n)++Ak L L.reaches.n)++AG L L.farms.n)++Bw L i++many (EU L.rots i))++C8 (Ac L i) 0).length=(((((many (Au L.s)++AF L L.lets.n)++Av L L.crops.n)++Ak L L.reaches.n)++AG L L.farms.n)++Bw L i).length+3:=by simp only[yn,C8,List.range_zero,List.flatMap_nil,yK];rfl
   rw[e];exact h3⟩
  have a8:=yb (x.o.hd _ _ _ h3.j)
  have d:=a8.o.box
  have B:=a8.o.turns i q
  rw[U.o] at B
  unfold AA.v at B
  clear h3 G a8 N T I F a2
  go_wp2_with fail
  clear d B
  go_loopw [170] (λjv wq=>∃j:Nat,j<=(Ac L i).n/\jv=iV j/\Hid (∃O,Jt J W0 l Bc ((((((many (Au L.s)++AF L L.lets.n)++Av L L.crops.n)++Ak L L.reaches.n)++AG L L.farms.n)++Bw L i++many (EU L.rots i))++C8 (Ac L i) j).length O wq)) (λjv _=>(Ac L i).n - (intOf jv).toNat)
  case atStart=>exact ⟨0,yC _,rfl,K⟩
  rename_i ap _
  clear K
  obtain ⟨j,hj,rfl,a6⟩:=hrel
  rename World=>wq
  have ac:=yb (a6.o.elim λO h=>x.o.hd _ _ _ h.j)
  have d:=ac.o.box
  by_cases aa:j < (Ac L i).n
  ·obtain ⟨b2,o2,af,a7⟩:=(W.o.turns i q).get aa
   have B:=ac.o.turns i q
   rw[U.o] at B
   unfold AA.v at B
   rw[af] at B
   have ao:(j:Int) < ((Ac L i).n:Int):=by omega
   have am:(Ac L i).n<=140737488355328:=(W.o.turns i q).1
   have ag:(λk=>many [(Ac L i).ptr 8 k 2]) j=((#[pV b2 (o2+j*8+2)]:Array Value).toList.map (λp=>#[p,iV 0])):=by
    simp only[many,AA.ptr,a7,zN,qc]
   have al:Hid (∃post,X=((((((many (Au L.s)++AF L L.lets.n)++Av L L.crops.n)++Ak L L.reaches.n)++AG L L.farms.n)++Bw L i++many (EU L.rots i))++C8 (Ac L i) j)++((#[pV b2 (o2+j*8+2)]:Array Value).toList.map (λp=>#[p,iV 0])++post)):=yb (by
    obtain ⟨post,C⟩:=BW (λi=>many (EU L.rots i)++C8 (Ac L i) (Ac L i).n) q
    obtain ⟨Y,ai⟩:=BW (λk=>many [(Ac L i).ptr 8 k 2]) aa
    have E:Bw L L.rots.n=Bw L i++((many (EU L.rots i)++C8 (Ac L i) (Ac L i).n)++post):=C
    have ak:C8 (Ac L i) (Ac L i).n=C8 (Ac L i) j++((#[pV b2 (o2+j*8+2)]:Array Value).toList.map (λp=>#[p,iV 0])++Y):=ai.trans (yN (λz=>C8 (Ac L i) j++(z++Y)) ag)
    refine ⟨Y++(post++((B8 L L.rights.n++BM L L.duties.n))),?_⟩
    rw[HX.o]
    unfold Cd
    rw[E,ak]
    simp only[yX])
   obtain ⟨O,m⟩:=a6.o
   have S:=yb m
   clear m a7 af ag
   go_wp2_with fail
   refine (E1 x.o hn (pre:=(((((many (Au L.s)++AF L L.lets.n)++Av L L.crops.n)++Ak L L.reaches.n)++AG L L.farms.n)++Bw L i++many (EU L.rots i))++C8 (Ac L i) j) S.o 0 #[pV b2 (o2+j*8+2)] 1 rfl _ al.o (by decide) (by simp) _ rfl).mono ?_
   rintro e w5 (⟨r,rfl,hr⟩|⟨V,rfl,C⟩)
   rotate_left
   ·exact ⟨rfl,.inr ⟨V,rfl,C⟩⟩
   have G:=yb hr
   clear hr d B
   rcases G.o with ⟨rfl,M,h3⟩|⟨rfl,M,u⟩
   ·have t:Hid (∃O,Jt J W0 l Bc ((((((many (Au L.s)++AF L L.lets.n)++Av L L.crops.n)++Ak L L.reaches.n)++AG L L.farms.n)++Bw L i++many (EU L.rots i))++C8 (Ac L i) (j+1)).length O w5):=yb ⟨M,by
     have Z:(C8 (Ac L i) (j+1)).length=(C8 (Ac L i) j).length+1:=by rw[show C8 (Ac L i) (j+1)=C8 (Ac L i) j++_ from Aw _ j,yn];rfl
     have e:((((((many (Au L.s)++AF L L.lets.n)++Av L L.crops.n)++Ak L L.reaches.n)++AG L L.farms.n)++Bw L i++many (EU L.rots i))++C8 (Ac L i) (j+1)).length=((((((many (Au L.s)++AF L L.lets.n)++Av L L.crops.n)++Ak L L.reaches.n)++AG L L.farms.n)++Bw L i++many (EU L.rots i))++C8 (Ac L i) j).length+1:=by simp only[yn,Z];omega
     rw[e];exact h3⟩
    clear h3 G
    go_wp2
    first
    |exact ⟨⟨j+1,by omega,by go_num,t⟩,by simp[intOf];omega⟩
    |(refine ⟨?_,by simp[intOf];omega⟩;(repeat apply @Exists.intro Value);exact ⟨⟨j+1,by omega,by go_num,t⟩,rfl⟩)
   have D:=yb u
   clear u
   go_wp2
   refine zH (zr rfl _ _ _) rfl ?_
   exact .inl ⟨⟨_,rfl⟩,.inr ⟨_,D.o⟩⟩
  have ab:j=(Ac L i).n:=by omega
  rw[ab] at a6
  have t:Hid (∃O,Jt J W0 l Bc (((((many (Au L.s)++AF L L.lets.n)++Av L L.crops.n)++Ak L L.reaches.n)++AG L L.farms.n)++Bw L (i+1)).length O wq):=yb (a6.o.elim λM h3=>⟨M,by
   have Z:(Bw L (i+1))=Bw L i++(many (EU L.rots i)++C8 (Ac L i) (Ac L i).n):=Aw _ i
   have e:(((((many (Au L.s)++AF L L.lets.n)++Av L L.crops.n)++Ak L L.reaches.n)++AG L L.farms.n)++Bw L (i+1)).length=((((((many (Au L.s)++AF L L.lets.n)++Av L L.crops.n)++Ak L L.reaches.n)++AG L L.farms.n)++Bw L i++many (EU L.rots i))++C8 (Ac L i) (Ac L i).n).length:=by rw[Z];simp only[yX]
   rw[e];exact h3⟩)
  clear a6 ab d
  go_wp2
  first
  |exact ⟨⟨i+1,by omega,by go_num,t⟩,by simp[intOf];omega⟩
  |(refine ⟨?_,by simp[intOf];omega⟩;(repeat apply @Exists.intro Value);exact ⟨⟨i+1,by omega,by go_num,t⟩,rfl⟩)
 have A:i=L.rots.n:=by omega
 rw[A] at c
 have K:Hid (∃O,Jt J W0 l Bc ((((((many (Au L.s)++AF L L.lets.n)++Av L L.crops.n)++Ak L L.reaches.n)++AG L L.farms.n)++Bw L L.rots.n)++B8 L 0).length O wr):=yb (by
  have:=c.o
  rw[show ((((((many (Au L.s)++AF L L.lets.n)++Av L L.crops.n)++Ak L L.reaches.n)++AG L L.farms.n)++Bw L L.rots.n)++B8 L 0).length=(((((many (Au L.s)++AF L L.lets.n)++Av L L.crops.n)++Ak L L.reaches.n)++AG L L.farms.n)++Bw L L.rots.n).length by simp[B8]]
  exact this)
 clear c A
 have a:=f.o.rights
 unfold AA.v at a
 clear f
 go_wp2_with fail
 clear d a
 go_loopw [191] (λH wr=>∃i:Nat,i<=L.rights.n/\H=iV i/\Hid (∃O,Jt J W0 l Bc ((((((many (Au L.s)++AF L L.lets.n)++Av L L.crops.n)++Ak L L.reaches.n)++AG L L.farms.n)++Bw L L.rots.n)++B8 L i).length O wr)) (λH _=>L.rights.n - (intOf H).toNat)
 case atStart=>exact ⟨0,yC _,rfl,K⟩
 clear K
 obtain ⟨i,hi,rfl,c⟩:=hrel
 have f:=yb (c.o.elim λO h=>x.o.hd _ _ _ h.j)
 have d:=f.o.box
 by_cases q:i < L.rights.n
 ·obtain ⟨b,o,R,g⟩:=W.o.rights.get q
  have a:=f.o.rights
  unfold AA.v at a
  rw[R] at a
  have a1:(i:Int) < (L.rights.n:Int):=by omega
  have Q:L.rights.n<=140737488355328:=W.o.rights.1
  have y:(λi=>many (LN L.rights i)) i=((#[pV b (o+i*37+7),pV b (o+i*37+13),pV b (o+i*37+19),pV b (o+i*37+25),pV b (o+i*37+31)]:Array Value).toList.map (λp=>#[p,iV 0])):=by
   simp only[many,LN,AA.ptr,g,zN,qc]
  have HP:Hid (∃post,X=((((((many (Au L.s)++AF L L.lets.n)++Av L L.crops.n)++Ak L L.reaches.n)++AG L L.farms.n)++Bw L L.rots.n)++B8 L i)++((#[pV b (o+i*37+7),pV b (o+i*37+13),pV b (o+i*37+19),pV b (o+i*37+25),pV b (o+i*37+31)]:Array Value).toList.map (λp=>#[p,iV 0])++post)):=yb (by
   obtain ⟨post,C⟩:=BW (λi=>many (LN L.rights i)) q
   have E:B8 L L.rights.n=B8 L i++((#[pV b (o+i*37+7),pV b (o+i*37+13),pV b (o+i*37+19),pV b (o+i*37+25),pV b (o+i*37+31)]:Array Value).toList.map (λp=>#[p,iV 0])++post):=C.trans (yN (λz=>B8 L i++(z++post)) y)
   refine ⟨(post++(BM L L.duties.n)),?_⟩
   rw[HX.o]
   unfold Cd
   rw[E]
   simp only[yX])
  clear y
  have U:=yb g
  clear g R
  obtain ⟨O,m⟩:=c.o
  go_wp2_with fail
  have F:=yb (m.below x.o (yg _ _).drew)
  have a2:=yb (m.below x.o (((yg _ _).alloc (yi _) (.cells #[pV b (o+i*37+7),pV b (o+i*37+13),pV b (o+i*37+19),pV b (o+i*37+25),pV b (o+i*37+31)] 206)).drew))
  have I:=yb (x.o.hd _ _ _ F.o.j)
  have T:=yb (x.o.hd _ _ _ a2.o.j)
  have P:=I.o.box
  go_region_held2 (λw'=>w'.cell? (aV Bs 0)=some (pV L.s 0)) (first|exact I.o.box|exact T.o.box|exact N.o.box)
   (first|(go_at_call 125;refine (E1 x.o hn (pre:=(((((many (Au L.s)++AF L L.lets.n)++Av L L.crops.n)++Ak L L.reaches.n)++AG L L.farms.n)++Bw L L.rots.n)++B8 L i) F.o 0 _ 5 rfl _ HP.o (by decide) (by simp) _ rfl).mono ?_;rintro e w3 (⟨r,rfl,hr⟩|⟨V,rfl,C⟩);rotate_left;exact ⟨rfl,.inr ⟨V,rfl,C⟩⟩;have N:=yb (hr.elim (λh=>h.2.elim λO h=>x.o.hd _ _ _ h.j) (λh=>h.2.elim λO h=>x.o.hdx _ _ h));have G:=yb hr;clear hr))
  clear P d a m
  rcases G.o with ⟨rfl,M,h3⟩|⟨rfl,M,u⟩
  ·have t:Hid (∃O,Jt J W0 l Bc ((((((many (Au L.s)++AF L L.lets.n)++Av L L.crops.n)++Ak L L.reaches.n)++AG L L.farms.n)++Bw L L.rots.n)++B8 L (i+1)).length O w3):=yb ⟨M,by
    have Z:(B8 L (i+1)).length=(B8 L i).length+5:=by rw[show B8 L (i+1)=B8 L i++_ from Aw _ i,yn];rfl
    have e:((((((many (Au L.s)++AF L L.lets.n)++Av L L.crops.n)++Ak L L.reaches.n)++AG L L.farms.n)++Bw L L.rots.n)++B8 L (i+1)).length=((((((many (Au L.s)++AF L L.lets.n)++Av L L.crops.n)++Ak L L.reaches.n)++AG L L.farms.n)++Bw L L.rots.n)++B8 L i).length+5:=by simp only[yn,Z];omega
    rw[e];exact h3⟩
   clear h3 G
   go_wp2
   first
   |exact ⟨⟨i+1,by omega,by go_num,t⟩,by simp[intOf];omega⟩
   |(refine ⟨?_,by simp[intOf];omega⟩;(repeat apply @Exists.intro Value);exact ⟨⟨i+1,by omega,by go_num,t⟩,rfl⟩)
  have D:=yb u
  clear u
  go_wp2
  refine zH (zr rfl _ _ _) rfl ?_
  exact .inl ⟨⟨_,rfl⟩,.inr ⟨_,D.o⟩⟩
 have A:i=L.rights.n:=by omega
 rw[A] at c
 have K:Hid (∃O,Jt J W0 l Bc (((((((many (Au L.s)++AF L L.lets.n)++Av L L.crops.n)++Ak L L.reaches.n)++AG L L.farms.n)++Bw L L.rots.n)++B8 L L.rights.n)++BM L 0).length O wr):=yb (by
  have:=c.o
  rw[show (((((((many (Au L.s)++AF L L.lets.n)++Av L L.crops.n)++Ak L L.reaches.n)++AG L L.farms.n)++Bw L L.rots.n)++B8 L L.rights.n)++BM L 0).length=((((((many (Au L.s)++AF L L.lets.n)++Av L L.crops.n)++Ak L L.reaches.n)++AG L L.farms.n)++Bw L L.rots.n)++B8 L L.rights.n).length by simp[BM]]
  exact this)
 clear c A
 have a:=f.o.duties
 unfold AA.v at a
 clear f
 go_wp2_with fail
 clear d a
 go_loopw [225] (λH wr=>∃i:Nat,i<=L.duties.n/\H=iV i/\Hid (∃O,Jt J W0 l Bc (((((((many (Au L.s)++AF L L.lets.n)++Av L L.crops.n)++Ak L L.reaches.n)++AG L L.farms.n)++Bw L L.rots.n)++B8 L L.rights.n)++BM L i).length O wr)) (λH _=>L.duties.n - (intOf H).toNat)
 case atStart=>exact ⟨0,yC _,rfl,K⟩
 clear K
 obtain ⟨i,hi,rfl,c⟩:=hrel
 have f:=yb (c.o.elim λO h=>x.o.hd _ _ _ h.j)
 have d:=f.o.box
 by_cases q:i < L.duties.n
 ·obtain ⟨b,o,R,g⟩:=W.o.duties.get q
  have a:=f.o.duties
  unfold AA.v at a
  rw[R] at a
  have a1:(i:Int) < (L.duties.n:Int):=by omega
  have Q:L.duties.n<=140737488355328:=W.o.duties.1
  have y:(λi=>many [L.duties.ptr 11 i 5]) i=((#[pV b (o+i*11+5)]:Array Value).toList.map (λp=>#[p,iV 0])):=by
   simp only[many,AA.ptr,g,zN,qc]
  have HP:Hid (∃post,X=(((((((many (Au L.s)++AF L L.lets.n)++Av L L.crops.n)++Ak L L.reaches.n)++AG L L.farms.n)++Bw L L.rots.n)++B8 L L.rights.n)++BM L i)++((#[pV b (o+i*11+5)]:Array Value).toList.map (λp=>#[p,iV 0])++post)):=yb (by
   obtain ⟨post,C⟩:=BW (λi=>many [L.duties.ptr 11 i 5]) q
   have E:BM L L.duties.n=BM L i++((#[pV b (o+i*11+5)]:Array Value).toList.map (λp=>#[p,iV 0])++post):=C.trans (yN (λz=>BM L i++(z++post)) y)
   refine ⟨post,?_⟩
   rw[HX.o]
   unfold Cd
   rw[E]
   simp only[yX])
  clear y
  have U:=yb g
  clear g R
  obtain ⟨O,m⟩:=c.o
  have S:=yb m
  clear m
  go_wp2_with fail
  refine (E1 x.o hn (pre:=((((((many (Au L.s)++AF L L.lets.n)++Av L L.crops.n)++Ak L L.reaches.n)++AG L L.farms.n)++Bw L L.rots.n)++B8 L L.rights.n)++BM L i) S.o 0 #[pV b (o+i*11+5)] 1 rfl _ HP.o (by decide) (by simp) _ rfl).mono ?_
  rintro e w3 (⟨r,rfl,hr⟩|⟨V,rfl,C⟩)
  rotate_left
  ·exact ⟨rfl,.inr ⟨V,rfl,C⟩⟩
  have G:=yb hr
  clear hr d a
  rcases G.o with ⟨rfl,M,h3⟩|⟨rfl,M,u⟩
  ·have t:Hid (∃O,Jt J W0 l Bc (((((((many (Au L.s)++AF L L.lets.n)++Av L L.crops.n)++Ak L L.reaches.n)++AG L L.farms.n)++Bw L L.rots.n)++B8 L L.rights.n)++BM L (i+1)).length O w3):=yb ⟨M,by
    have Z:(BM L (i+1)).length=(BM L i).length+1:=by rw[show BM L (i+1)=BM L i++_ from Aw _ i,yn];rfl
    have e:(((((((many (Au L.s)++AF L L.lets.n)++Av L L.crops.n)++Ak L L.reaches.n)++AG L L.farms.n)++Bw L L.rots.n)++B8 L L.rights.n)++BM L (i+1)).length=(((((((many (Au L.s)++AF L L.lets.n)++Av L L.crops.n)++Ak L L.reaches.n)++AG L L.farms.n)++Bw L L.rots.n)++B8 L L.rights.n)++BM L i).length+1:=by simp only[yn,Z];omega
    rw[e];exact h3⟩
   clear h3 G
   go_wp2
   first
   |exact ⟨⟨i+1,by omega,by go_num,t⟩,by simp[intOf];omega⟩
   |(refine ⟨?_,by simp[intOf];omega⟩;(repeat apply @Exists.intro Value);exact ⟨⟨i+1,by omega,by go_num,t⟩,rfl⟩)
  have D:=yb u
  clear u
  go_wp2
  refine zH (zr rfl _ _ _) rfl ?_
  exact .inl ⟨⟨_,rfl⟩,.inr ⟨_,D.o⟩⟩
 have A:i=L.duties.n:=by omega
 rw[A] at c
 have K:Hid (∃O,J X.length O wr):=yb (c.o.elim λO h=>⟨O,by
  have:=h.j
  rw[show (((((((many (Au L.s)++AF L L.lets.n)++Av L L.crops.n)++Ak L L.reaches.n)++AG L L.farms.n)++Bw L L.rots.n)++B8 L L.rights.n)++BM L L.duties.n).length=X.length by rw[HX.o];unfold Cd;simp] at this
  exact this⟩)
 clear c A f d
 go_wp2
 go_end0
 exact .inl ⟨⟨_,rfl⟩,.inl K.o⟩
end Go.Proofs.YtbdfinegbjdblaaGreatDoor
