/- The iterator over a source's expressions: the walk. -/
import Derived.Test.YtghepahgkcigpaaRg0
import Derived.Deep.RegionHeld2
import Derived.StillTailTactics
set_option maxRecDepth 100000
set_option maxHeartbeats 16000000
set_option linter.unusedSimpArgs false
namespace Go.Proofs.Ytghepahgkcigpaa
open Go.RowKit
def Te(J:Nat->NP->World->Prop)(Jx:NP->World->Prop)(Jp:List PanicEntry->NP->World->Prop)(k:Nat)(e:Ending)(W':World):Prop:=
 ((∃v,e=.returned v)∧((∃O,J k O W')∨∃O,Jx O W'))∨∃a,e=.panicked a∧∃O,Jp a O W'
theorem Hu.start{n l:Nat}{P:Program}{xs:List (Array Value)}{Hd:World->Prop}{J:Nat->NP->World->Prop}{Jx:NP->World->Prop}{Jp:List PanicEntry->NP->World->Prop}{W0:World}(hc:Ue n l P xs Hd J Jx Jp W0)(h0:J 0 (fun _=>False) W0)(t:TypeId):
  Hu J W0 l W0.heap.size 0 (fun b=>False∨(W0.heap.size<=b∧b < (W0.alloc (.cells #[.func (.yield l) #[] #[]] t)).heap.size)) (W0.alloc (.cells #[.func (.yield l) #[] #[]] t)):=
 ⟨Ej hc.stays h0 ((yg _ _).alloc (ye _) _),.inr ⟨ye _,by simp⟩,by
  have:(W0.alloc (.cells #[.func (.yield l) #[] #[]] t)).heap[W0.heap.size]?=some (.cells #[.func (.yield l) #[] #[]] t (0,0)):=World.alloc_heap_new _ _
  simp only[World.cell?,this];simp,by simp,fun b hb=>by rcases hb with hb|hb;exact hb.elim;exact hb⟩
theorem Ol(n:Nat)(hn:1<=n)(l Bs:Nat)(L:Bh)(hL:L.Ok)(J:Nat->NP->World->Prop)(Jx:NP->World->Prop)(Jp:List PanicEntry->NP->World->Prop)(W0:World)
 (hc:Ue (n - 1) l Try.prog (BO L) (I9 L Bs) J Jx Jp W0)(h0:J 0 (fun _=>False) W0):
  Calls Try.prog 89 #[.func (.yield l) #[] #[],.pointer (some ⟨Bs,0,none⟩)] W0 (Te J Jx Jp (BO L).length):=by
 have ao:∀(fn:Fn) (first cap:Array Value) (w:World),(Instr.makeFunc fn first cap).run Try.prog w=.ok (.func fn first cap) w:=fun _ _ _ _=>rfl
 have x:=yb hc
 have Y:=yb hL
 have HI:=yb (Hu.start hc h0 149)
 obtain ⟨X,hX⟩:∃X,X=BO L:=⟨_,rfl⟩
 have HX:=yb hX
 rw[<-hX] at x ⊢
 clear hc hL h0 hX
 go_enter Try.func89,Try.ntmps89
 go_wp2_with fail
 generalize hw:W0.alloc (.cells #[.func (.yield l) #[] #[]] 149)=w1 at HI ⊢
 clear hw
 generalize W0.heap.size=Bc at HI ⊢
 have HH:=yb (x.o.hd _ _ _ HI.o.j)
 have G:=yb (HI.o.below x.o (yg _ _).drew)
 have P:=yb (x.o.hd _ _ _ G.o.j)
 have T:=yb (x.o.hd _ _ _ (HI.o.below x.o (((yg _ _).alloc (ye _) (.cells #[pV L.s 1,pV L.s 7,pV L.s 13] 134)).drew)).j)
 have ad:Hid (∃post,X=[]++((#[pV L.s 1,pV L.s 7,pV L.s 13]:Array Value).toList.map (fun p=>#[p,iV 0])++post)):=yb ⟨_,by rw[HX.o];rfl⟩
 go_region_held2 (fun w'=>w'.cell? (aV Bs 0)=some (pV L.s 0)) (first|exact P.o.box|exact T.o.box|exact N.o.box)
  (first|(go_at_call 90;refine (Dh x.o hn (pre:=[]) G.o 0 _ 3 rfl _ ad.o (by decide) (by simp) _ rfl).mono ?_;rintro e w2 (⟨r,rfl,F⟩|⟨W,rfl,C⟩);rotate_left;exact ⟨rfl,.inr ⟨W,rfl,C⟩⟩;have N:=yb (F.elim (fun h=>h.2.elim fun O h=>x.o.hd _ _ _ h.j) (fun h=>h.2.elim fun O h=>x.o.hdx _ _ h));have H:=yb F;clear F))
 rcases H.o with ⟨rfl,O2,ac⟩|⟨rfl,O2,af⟩
 case inr=>
  have aj:=yb af
  clear af H N
  go_wp2
  refine xo (zf rfl _ _ _) rfl ?_
  exact .inl ⟨⟨_,rfl⟩,.inr ⟨_,aj.o⟩⟩
 have M:Hid (∃O,Hu J W0 l Bc (Aq (Ak L.s)++Ar L 0).length O w2):=yb ⟨O2,ac⟩
 clear ac H G P T ad HI HH
 have d:=N.o.box
 have a:=N.o.lets
 unfold Av.v at a
 go_wp2_with fail
 clear N d a
 go_loopw [34] (fun I wr=>∃i:Nat,i<=L.lets.n∧I=iV i∧Hid (∃O,Hu J W0 l Bc (Aq (Ak L.s)++Ar L i).length O wr)) (fun I _=>L.lets.n - (intOf I).toNat)
 case atStart=>exact ⟨0,yz _,rfl,M⟩
 case round=>
  clear M
  obtain ⟨i,hi,rfl,c⟩:=hrel
  have f:=yb (c.o.elim fun O h=>x.o.hd _ _ _ h.j)
  have d:=f.o.box
  by_cases q:i < L.lets.n
  ·obtain ⟨b,o,R,g⟩:=Y.o.lets.get q
   have a:=f.o.lets
   unfold Av.v at a
   rw[R] at a
   have a1:(i:Int) < (L.lets.n:Int):=by omega
   have S:L.lets.n<=140737488355328:=Y.o.lets.1
   have y:(fun i=> [#[L.lets.ptr 7 i 1,iV (1+(i:Int))]]) i=((#[pV b (o+i*7+1)]:Array Value).toList.map (fun p=>#[p,iV (1+(i:Int))])):=by
    simp only[Av.ptr,g,zT,xx]
   have HP:Hid (∃post,X=(Aq (Ak L.s)++Ar L i)++((#[pV b (o+i*7+1)]:Array Value).toList.map (fun p=>#[p,iV (1+(i:Int))])++post)):=yb (by
    obtain ⟨post,C⟩:=Bz (fun i=> [#[L.lets.ptr 7 i 1,iV (1+(i:Int))]]) q
    have E:Ar L L.lets.n=Ar L i++((#[pV b (o+i*7+1)]:Array Value).toList.map (fun p=>#[p,iV (1+(i:Int))])++post):=C.trans (yH (fun z=>Ar L i++(z++post)) y)
    refine ⟨(post++((Al L L.crops.n++(Ab L L.reaches.n++(Aw L L.farms.n++(AY L L.rots.n++(AN L L.rights.n++Bp L L.duties.n))))))),?_⟩
    rw[HX.o]
    unfold BO
    rw[E]
    simp only[yl])
   clear y
   have V:=yb g
   clear g R
   obtain ⟨O,m⟩:=c.o
   have U:=yb m
   clear m
   go_wp2_with fail
   refine (Dh x.o hn (pre:=Aq (Ak L.s)++Ar L i) U.o (1+(i:Int)) #[pV b (o+i*7+1)] 1 rfl _ HP.o (by decide) (by simp) _ rfl).mono ?_
   rintro e w3 (⟨r,rfl,F⟩|⟨W,rfl,C⟩)
   rotate_left
   ·exact ⟨rfl,.inr ⟨W,rfl,C⟩⟩
   have H:=yb F
   clear F d a
   rcases H.o with ⟨rfl,K,h3⟩|⟨rfl,K,t⟩
   ·have u:Hid (∃O,Hu J W0 l Bc (Aq (Ak L.s)++Ar L (i+1)).length O w3):=yb ⟨K,by
     have Z:(Ar L (i+1)).length=(Ar L i).length+1:=by rw[show Ar L (i+1)=Ar L i++_ from Am _ i,ym];rfl
     have e:(Aq (Ak L.s)++Ar L (i+1)).length=(Aq (Ak L.s)++Ar L i).length+1:=by simp only[ym,Z];omega
     rw[e];exact h3⟩
    clear h3 H
    go_wp2
    first
    |exact ⟨⟨i+1,by omega,by go_num,u⟩,by simp[intOf];omega⟩
    |(refine ⟨?_,by simp[intOf];omega⟩;(repeat apply @Exists.intro Value);exact ⟨⟨i+1,by omega,by go_num,u⟩,rfl⟩)
   ·have D:=yb t
    clear t
    go_wp2
    refine xo (zf rfl _ _ _) rfl ?_
    exact .inl ⟨⟨_,rfl⟩,.inr ⟨_,D.o⟩⟩
  ·have A:i=L.lets.n:=by omega
   rw[A] at c
   have M:Hid (∃O,Hu J W0 l Bc ((Aq (Ak L.s)++Ar L L.lets.n)++Al L 0).length O wr):=yb (by
    have:=c.o
    rw[show ((Aq (Ak L.s)++Ar L L.lets.n)++Al L 0).length=(Aq (Ak L.s)++Ar L L.lets.n).length by simp[Al]]
    exact this)
   clear c A
   have a:=f.o.crops
   unfold Av.v at a
   clear f
   go_wp2_with fail
   clear d a
   go_loopw [56] (fun I wr=>∃i:Nat,i<=L.crops.n∧I=iV i∧Hid (∃O,Hu J W0 l Bc ((Aq (Ak L.s)++Ar L L.lets.n)++Al L i).length O wr)) (fun I _=>L.crops.n - (intOf I).toNat)
   case atStart=>exact ⟨0,yz _,rfl,M⟩
   case round=>
    clear M
    obtain ⟨i,hi,rfl,c⟩:=hrel
    have f:=yb (c.o.elim fun O h=>x.o.hd _ _ _ h.j)
    have d:=f.o.box
    by_cases q:i < L.crops.n
    ·obtain ⟨b,o,R,g⟩:=Y.o.crops.get q
     have a:=f.o.crops
     unfold Av.v at a
     rw[R] at a
     have a1:(i:Int) < (L.crops.n:Int):=by omega
     have S:L.crops.n<=140737488355328:=Y.o.crops.1
     have y:(fun i=>Aq [L.crops.ptr 7 i 1]) i=((#[pV b (o+i*7+1)]:Array Value).toList.map (fun p=>#[p,iV 0])):=by
      simp only[Aq,Av.ptr,g,zT,xx]
     have HP:Hid (∃post,X=((Aq (Ak L.s)++Ar L L.lets.n)++Al L i)++((#[pV b (o+i*7+1)]:Array Value).toList.map (fun p=>#[p,iV 0])++post)):=yb (by
      obtain ⟨post,C⟩:=Bz (fun i=>Aq [L.crops.ptr 7 i 1]) q
      have E:Al L L.crops.n=Al L i++((#[pV b (o+i*7+1)]:Array Value).toList.map (fun p=>#[p,iV 0])++post):=C.trans (yH (fun z=>Al L i++(z++post)) y)
      refine ⟨(post++((Ab L L.reaches.n++(Aw L L.farms.n++(AY L L.rots.n++(AN L L.rights.n++Bp L L.duties.n)))))),?_⟩
      rw[HX.o]
      unfold BO
      rw[E]
      simp only[yl])
     clear y
     have V:=yb g
     clear g R
     obtain ⟨O,m⟩:=c.o
     have U:=yb m
     clear m
     go_wp2_with fail
     refine (Dh x.o hn (pre:=(Aq (Ak L.s)++Ar L L.lets.n)++Al L i) U.o 0 #[pV b (o+i*7+1)] 1 rfl _ HP.o (by decide) (by simp) _ rfl).mono ?_
     rintro e w3 (⟨r,rfl,F⟩|⟨W,rfl,C⟩)
     rotate_left
     ·exact ⟨rfl,.inr ⟨W,rfl,C⟩⟩
     have H:=yb F
     clear F d a
     rcases H.o with ⟨rfl,K,h3⟩|⟨rfl,K,t⟩
     ·have u:Hid (∃O,Hu J W0 l Bc ((Aq (Ak L.s)++Ar L L.lets.n)++Al L (i+1)).length O w3):=yb ⟨K,by
       have Z:(Al L (i+1)).length=(Al L i).length+1:=by rw[show Al L (i+1)=Al L i++_ from Am _ i,ym];rfl
       have e:((Aq (Ak L.s)++Ar L L.lets.n)++Al L (i+1)).length=((Aq (Ak L.s)++Ar L L.lets.n)++Al L i).length+1:=by simp only[ym,Z];omega
       rw[e];exact h3⟩
      clear h3 H
      go_wp2
      first
      |exact ⟨⟨i+1,by omega,by go_num,u⟩,by simp[intOf];omega⟩
      |(refine ⟨?_,by simp[intOf];omega⟩;(repeat apply @Exists.intro Value);exact ⟨⟨i+1,by omega,by go_num,u⟩,rfl⟩)
     ·have D:=yb t
      clear t
      go_wp2
      refine xo (zf rfl _ _ _) rfl ?_
      exact .inl ⟨⟨_,rfl⟩,.inr ⟨_,D.o⟩⟩
    ·have A:i=L.crops.n:=by omega
     rw[A] at c
     have M:Hid (∃O,Hu J W0 l Bc (((Aq (Ak L.s)++Ar L L.lets.n)++Al L L.crops.n)++Ab L 0).length O wr):=yb (by
      have:=c.o
      rw[show (((Aq (Ak L.s)++Ar L L.lets.n)++Al L L.crops.n)++Ab L 0).length=((Aq (Ak L.s)++Ar L L.lets.n)++Al L L.crops.n).length by simp[Ab]]
      exact this)
     clear c A
     have a:=f.o.reaches
     unfold Av.v at a
     clear f
     go_wp2_with fail
     clear d a
     go_loopw [76] (fun I wr=>∃i:Nat,i<=L.reaches.n∧I=iV i∧Hid (∃O,Hu J W0 l Bc (((Aq (Ak L.s)++Ar L L.lets.n)++Al L L.crops.n)++Ab L i).length O wr)) (fun I _=>L.reaches.n - (intOf I).toNat)
     case atStart=>exact ⟨0,yz _,rfl,M⟩
     case round=>
      clear M
      obtain ⟨i,hi,rfl,c⟩:=hrel
      have f:=yb (c.o.elim fun O h=>x.o.hd _ _ _ h.j)
      have d:=f.o.box
      by_cases q:i < L.reaches.n
      ·obtain ⟨b,o,R,g⟩:=Y.o.reaches.get q
       have a:=f.o.reaches
       unfold Av.v at a
       rw[R] at a
       have a1:(i:Int) < (L.reaches.n:Int):=by omega
       have S:L.reaches.n<=140737488355328:=Y.o.reaches.1
       have y:(fun i=>Aq (Jy L.reaches i)) i=((#[pV b (o+i*51+3),pV b (o+i*51+9),pV b (o+i*51+15),pV b (o+i*51+21),pV b (o+i*51+27),pV b (o+i*51+33),pV b (o+i*51+39),pV b (o+i*51+45)]:Array Value).toList.map (fun p=>#[p,iV 0])):=by
        simp only[Aq,Jy,Av.ptr,g,zT,xx]
       have HP:Hid (∃post,X=(((Aq (Ak L.s)++Ar L L.lets.n)++Al L L.crops.n)++Ab L i)++((#[pV b (o+i*51+3),pV b (o+i*51+9),pV b (o+i*51+15),pV b (o+i*51+21),pV b (o+i*51+27),pV b (o+i*51+33),pV b (o+i*51+39),pV b (o+i*51+45)]:Array Value).toList.map (fun p=>#[p,iV 0])++post)):=yb (by
        obtain ⟨post,C⟩:=Bz (fun i=>Aq (Jy L.reaches i)) q
        have E:Ab L L.reaches.n=Ab L i++((#[pV b (o+i*51+3),pV b (o+i*51+9),pV b (o+i*51+15),pV b (o+i*51+21),pV b (o+i*51+27),pV b (o+i*51+33),pV b (o+i*51+39),pV b (o+i*51+45)]:Array Value).toList.map (fun p=>#[p,iV 0])++post):=C.trans (yH (fun z=>Ab L i++(z++post)) y)
        refine ⟨(post++((Aw L L.farms.n++(AY L L.rots.n++(AN L L.rights.n++Bp L L.duties.n))))),?_⟩
        rw[HX.o]
        unfold BO
        rw[E]
        simp only[yl])
       clear y
       have V:=yb g
       clear g R
       obtain ⟨O,m⟩:=c.o
       go_wp2_with fail
       have G:=yb (m.below x.o (yg _ _).drew)
       have a2:=yb (m.below x.o (((yg _ _).alloc (ye _) (.cells #[pV b (o+i*51+3),pV b (o+i*51+9),pV b (o+i*51+15),pV b (o+i*51+21),pV b (o+i*51+27),pV b (o+i*51+33),pV b (o+i*51+39),pV b (o+i*51+45)] 134)).drew))
       have P:=yb (x.o.hd _ _ _ G.o.j)
       have T:=yb (x.o.hd _ _ _ a2.o.j)
       have Q:=P.o.box
       go_region_held2 (fun w'=>w'.cell? (aV Bs 0)=some (pV L.s 0)) (first|exact P.o.box|exact T.o.box|exact N.o.box)
        (first|(go_at_call 90;refine (Dh x.o hn (pre:=((Aq (Ak L.s)++Ar L L.lets.n)++Al L L.crops.n)++Ab L i) G.o 0 _ 8 rfl _ HP.o (by decide) (by simp) _ rfl).mono ?_;rintro e w3 (⟨r,rfl,F⟩|⟨W,rfl,C⟩);rotate_left;exact ⟨rfl,.inr ⟨W,rfl,C⟩⟩;have N:=yb (F.elim (fun h=>h.2.elim fun O h=>x.o.hd _ _ _ h.j) (fun h=>h.2.elim fun O h=>x.o.hdx _ _ h));have H:=yb F;clear F))
       clear Q d a m
       rcases H.o with ⟨rfl,K,h3⟩|⟨rfl,K,t⟩
       ·have u:Hid (∃O,Hu J W0 l Bc (((Aq (Ak L.s)++Ar L L.lets.n)++Al L L.crops.n)++Ab L (i+1)).length O w3):=yb ⟨K,by
         have Z:(Ab L (i+1)).length=(Ab L i).length+8:=by rw[show Ab L (i+1)=Ab L i++_ from Am _ i,ym];rfl
         have e:(((Aq (Ak L.s)++Ar L L.lets.n)++Al L L.crops.n)++Ab L (i+1)).length=(((Aq (Ak L.s)++Ar L L.lets.n)++Al L L.crops.n)++Ab L i).length+8:=by simp only[ym,Z];omega
         rw[e];exact h3⟩
        clear h3 H
        go_wp2
        first
        |exact ⟨⟨i+1,by omega,by go_num,u⟩,by simp[intOf];omega⟩
        |(refine ⟨?_,by simp[intOf];omega⟩;(repeat apply @Exists.intro Value);exact ⟨⟨i+1,by omega,by go_num,u⟩,rfl⟩)
       ·have D:=yb t
        clear t
        go_wp2
        refine xo (zf rfl _ _ _) rfl ?_
        exact .inl ⟨⟨_,rfl⟩,.inr ⟨_,D.o⟩⟩
      ·have A:i=L.reaches.n:=by omega
       rw[A] at c
       have M:Hid (∃O,Hu J W0 l Bc ((((Aq (Ak L.s)++Ar L L.lets.n)++Al L L.crops.n)++Ab L L.reaches.n)++Aw L 0).length O wr):=yb (by
        have:=c.o
        rw[show ((((Aq (Ak L.s)++Ar L L.lets.n)++Al L L.crops.n)++Ab L L.reaches.n)++Aw L 0).length=(((Aq (Ak L.s)++Ar L L.lets.n)++Al L L.crops.n)++Ab L L.reaches.n).length by simp[Aw]]
        exact this)
       clear c A
       have a:=f.o.farms
       unfold Av.v at a
       clear f
       go_wp2_with fail
       clear d a
       go_loopw [123] (fun I wr=>∃i:Nat,i<=L.farms.n∧I=iV i∧Hid (∃O,Hu J W0 l Bc ((((Aq (Ak L.s)++Ar L L.lets.n)++Al L L.crops.n)++Ab L L.reaches.n)++Aw L i).length O wr)) (fun I _=>L.farms.n - (intOf I).toNat)
       case atStart=>exact ⟨0,yz _,rfl,M⟩
       case round=>
        clear M
        obtain ⟨i,hi,rfl,c⟩:=hrel
        have f:=yb (c.o.elim fun O h=>x.o.hd _ _ _ h.j)
        have d:=f.o.box
        by_cases q:i < L.farms.n
        ·obtain ⟨b,o,R,g⟩:=Y.o.farms.get q
         have a:=f.o.farms
         unfold Av.v at a
         rw[R] at a
         have a1:(i:Int) < (L.farms.n:Int):=by omega
         have S:L.farms.n<=140737488355328:=Y.o.farms.1
         have y:(fun i=>Aq [L.farms.ptr 12 i 4]) i=((#[pV b (o+i*12+4)]:Array Value).toList.map (fun p=>#[p,iV 0])):=by
          simp only[Aq,Av.ptr,g,zT,xx]
         have HP:Hid (∃post,X=((((Aq (Ak L.s)++Ar L L.lets.n)++Al L L.crops.n)++Ab L L.reaches.n)++Aw L i)++((#[pV b (o+i*12+4)]:Array Value).toList.map (fun p=>#[p,iV 0])++post)):=yb (by
          obtain ⟨post,C⟩:=Bz (fun i=>Aq [L.farms.ptr 12 i 4]) q
          have E:Aw L L.farms.n=Aw L i++((#[pV b (o+i*12+4)]:Array Value).toList.map (fun p=>#[p,iV 0])++post):=C.trans (yH (fun z=>Aw L i++(z++post)) y)
          refine ⟨(post++((AY L L.rots.n++(AN L L.rights.n++Bp L L.duties.n)))),?_⟩
          rw[HX.o]
          unfold BO
          rw[E]
          simp only[yl])
         clear y
         have V:=yb g
         clear g R
         obtain ⟨O,m⟩:=c.o
         have U:=yb m
         clear m
         go_wp2_with fail
         refine (Dh x.o hn (pre:=(((Aq (Ak L.s)++Ar L L.lets.n)++Al L L.crops.n)++Ab L L.reaches.n)++Aw L i) U.o 0 #[pV b (o+i*12+4)] 1 rfl _ HP.o (by decide) (by simp) _ rfl).mono ?_
         rintro e w3 (⟨r,rfl,F⟩|⟨W,rfl,C⟩)
         rotate_left
         ·exact ⟨rfl,.inr ⟨W,rfl,C⟩⟩
         have H:=yb F
         clear F d a
         rcases H.o with ⟨rfl,K,h3⟩|⟨rfl,K,t⟩
         ·have u:Hid (∃O,Hu J W0 l Bc ((((Aq (Ak L.s)++Ar L L.lets.n)++Al L L.crops.n)++Ab L L.reaches.n)++Aw L (i+1)).length O w3):=yb ⟨K,by
           have Z:(Aw L (i+1)).length=(Aw L i).length+1:=by rw[show Aw L (i+1)=Aw L i++_ from Am _ i,ym];rfl
           have e:((((Aq (Ak L.s)++Ar L L.lets.n)++Al L L.crops.n)++Ab L L.reaches.n)++Aw L (i+1)).length=((((Aq (Ak L.s)++Ar L L.lets.n)++Al L L.crops.n)++Ab L L.reaches.n)++Aw L i).length+1:=by simp only[ym,Z];omega
           rw[e];exact h3⟩
          clear h3 H
          go_wp2
          first
          |exact ⟨⟨i+1,by omega,by go_num,u⟩,by simp[intOf];omega⟩
          |(refine ⟨?_,by simp[intOf];omega⟩;(repeat apply @Exists.intro Value);exact ⟨⟨i+1,by omega,by go_num,u⟩,rfl⟩)
         ·have D:=yb t
          clear t
          go_wp2
          refine xo (zf rfl _ _ _) rfl ?_
          exact .inl ⟨⟨_,rfl⟩,.inr ⟨_,D.o⟩⟩
        ·have A:i=L.farms.n:=by omega
         rw[A] at c
         have M:Hid (∃O,Hu J W0 l Bc (((((Aq (Ak L.s)++Ar L L.lets.n)++Al L L.crops.n)++Ab L L.reaches.n)++Aw L L.farms.n)++AY L 0).length O wr):=yb (by
          have:=c.o
          rw[show (((((Aq (Ak L.s)++Ar L L.lets.n)++Al L L.crops.n)++Ab L L.reaches.n)++Aw L L.farms.n)++AY L 0).length=((((Aq (Ak L.s)++Ar L L.lets.n)++Al L L.crops.n)++Ab L L.reaches.n)++Aw L L.farms.n).length by simp[AY]]
          exact this)
         clear c A
         have a:=f.o.rots
         unfold Av.v at a
         clear f
         go_wp2_with fail
         clear d a
         go_loopw [143] (fun I wr=>∃i:Nat,i<=L.rots.n∧I=iV i∧Hid (∃O,Hu J W0 l Bc (((((Aq (Ak L.s)++Ar L L.lets.n)++Al L L.crops.n)++Ab L L.reaches.n)++Aw L L.farms.n)++AY L i).length O wr)) (fun I _=>L.rots.n - (intOf I).toNat)
         case atStart=>exact ⟨0,yz _,rfl,M⟩
         case round=>
          clear M
          obtain ⟨i,hi,rfl,c⟩:=hrel
          have f:=yb (c.o.elim fun O h=>x.o.hd _ _ _ h.j)
          have d:=f.o.box
          by_cases q:i < L.rots.n
          ·obtain ⟨b,o,R,g⟩:=Y.o.rots.get q
           have a:=f.o.rots
           unfold Av.v at a
           rw[R] at a
           have a1:(i:Int) < (L.rots.n:Int):=by omega
           have S:L.rots.n<=140737488355328:=Y.o.rots.1
           have y:(fun i=>Aq (E2 L.rots i)++BJ (A4 L i) (A4 L i).n) i=((#[pV b (o+i*23+4),pV b (o+i*23+10),pV b (o+i*23+16)]:Array Value).toList.map (fun p=>#[p,iV 0])++BJ (A4 L i) (A4 L i).n):=by
            simp only[Aq,E2,Av.ptr,g,zT,xx]
           have HP:Hid (∃post,X=(((((Aq (Ak L.s)++Ar L L.lets.n)++Al L L.crops.n)++Ab L L.reaches.n)++Aw L L.farms.n)++AY L i)++((#[pV b (o+i*23+4),pV b (o+i*23+10),pV b (o+i*23+16)]:Array Value).toList.map (fun p=>#[p,iV 0])++post)):=yb (by
            obtain ⟨post,C⟩:=Bz (fun i=>Aq (E2 L.rots i)++BJ (A4 L i) (A4 L i).n) q
            have E:AY L L.rots.n=AY L i++((#[pV b (o+i*23+4),pV b (o+i*23+10),pV b (o+i*23+16)]:Array Value).toList.map (fun p=>#[p,iV 0])++BJ (A4 L i) (A4 L i).n++post):=C.trans (yH (fun z=>AY L i++(z++post)) y)
            refine ⟨BJ (A4 L i) (A4 L i).n++(post++((AN L L.rights.n++Bp L L.duties.n))),?_⟩
            rw[HX.o]
            unfold BO
            rw[E]
            simp only[yl])
           clear y
           have V:=yb g
           clear g R
           obtain ⟨O,m⟩:=c.o
           go_wp2_with fail
           have G:=yb (m.below x.o (yg _ _).drew)
           have a2:=yb (m.below x.o (((yg _ _).alloc (ye _) (.cells #[pV b (o+i*23+4),pV b (o+i*23+10),pV b (o+i*23+16)] 134)).drew))
           have P:=yb (x.o.hd _ _ _ G.o.j)
           have T:=yb (x.o.hd _ _ _ a2.o.j)
           have Q:=P.o.box
           go_region_held2 (fun w'=>w'.cell? (aV Bs 0)=some (pV L.s 0)) (first|exact P.o.box|exact T.o.box|exact N.o.box)
            (first|(go_at_call 90;refine (Dh x.o hn (pre:=((((Aq (Ak L.s)++Ar L L.lets.n)++Al L L.crops.n)++Ab L L.reaches.n)++Aw L L.farms.n)++AY L i) G.o 0 _ 3 rfl _ HP.o (by decide) (by simp) _ rfl).mono ?_;rintro e w3 (⟨r,rfl,F⟩|⟨W,rfl,C⟩);rotate_left;exact ⟨rfl,.inr ⟨W,rfl,C⟩⟩;have N:=yb (F.elim (fun h=>h.2.elim fun O h=>x.o.hd _ _ _ h.j) (fun h=>h.2.elim fun O h=>x.o.hdx _ _ h));have H:=yb F;clear F))
           clear Q d a m
           rcases H.o with ⟨rfl,K,h3⟩|⟨rfl,K,t⟩
           case inr=>
            have D:=yb t
            clear t
            go_wp2
            refine xo (zf rfl _ _ _) rfl ?_
            exact .inl ⟨⟨_,rfl⟩,.inr ⟨_,D.o⟩⟩
           have M:Hid (∃O,Hu J W0 l Bc ((((((Aq (Ak L.s)++Ar L L.lets.n)++Al L L.crops.n)++Ab L L.reaches.n)++Aw L L.farms.n)++AY L i++Aq (E2 L.rots i))++BJ (A4 L i) 0).length O w3):=yb ⟨K,by
            have e:((((((Aq (Ak L.s)++Ar L L.lets.n)++Al L L.crops.n)++Ab L L.reaches.n)++Aw L L.farms.n)++AY L i++Aq (E2 L.rots i))++BJ (A4 L i) 0).length=(((((Aq (Ak L.s)++Ar L L.lets.n)++Al L L.crops.n)++Ab L L.reaches.n)++Aw L L.farms.n)++AY L i).length+3:=by simp only[ym,BJ,List.range_zero,zL,yI];rfl
            rw[e];exact h3⟩
           have a8:=yb (x.o.hd _ _ _ h3.j)
           have d:=a8.o.box
           have B:=a8.o.turns i q
           rw[V.o] at B
           unfold Av.v at B
           clear h3 H a8 N T P G a2
           go_wp2_with fail
           clear d B
           go_loopw [170] (fun jv wq=>∃j:Nat,j<=(A4 L i).n∧jv=iV j∧Hid (∃O,Hu J W0 l Bc ((((((Aq (Ak L.s)++Ar L L.lets.n)++Al L L.crops.n)++Ab L L.reaches.n)++Aw L L.farms.n)++AY L i++Aq (E2 L.rots i))++BJ (A4 L i) j).length O wq)) (fun jv _=>(A4 L i).n - (intOf jv).toNat)
           case atStart=>exact ⟨0,yz _,rfl,M⟩
           case round=>
            rename_i ap _
            clear M
            obtain ⟨j,hj,rfl,a6⟩:=hrel
            rename World=>wq
            have ae:=yb (a6.o.elim fun O h=>x.o.hd _ _ _ h.j)
            have d:=ae.o.box
            by_cases ag:j < (A4 L i).n
            ·obtain ⟨b2,o2,ah,a7⟩:=(Y.o.turns i q).get ag
             have B:=ae.o.turns i q
             rw[V.o] at B
             unfold Av.v at B
             rw[ah] at B
             have an:(j:Int) < ((A4 L i).n:Int):=by omega
             have am:(A4 L i).n<=140737488355328:=(Y.o.turns i q).1
             have aa:(fun k=>Aq [(A4 L i).ptr 8 k 2]) j=((#[pV b2 (o2+j*8+2)]:Array Value).toList.map (fun p=>#[p,iV 0])):=by
              simp only[Aq,Av.ptr,a7,zT,xx]
             have ak:Hid (∃post,X=((((((Aq (Ak L.s)++Ar L L.lets.n)++Al L L.crops.n)++Ab L L.reaches.n)++Aw L L.farms.n)++AY L i++Aq (E2 L.rots i))++BJ (A4 L i) j)++((#[pV b2 (o2+j*8+2)]:Array Value).toList.map (fun p=>#[p,iV 0])++post)):=yb (by
              obtain ⟨post,C⟩:=Bz (fun i=>Aq (E2 L.rots i)++BJ (A4 L i) (A4 L i).n) q
              obtain ⟨a0,ai⟩:=Bz (fun k=>Aq [(A4 L i).ptr 8 k 2]) ag
              have E:AY L L.rots.n=AY L i++((Aq (E2 L.rots i)++BJ (A4 L i) (A4 L i).n)++post):=C
              have al:BJ (A4 L i) (A4 L i).n=BJ (A4 L i) j++((#[pV b2 (o2+j*8+2)]:Array Value).toList.map (fun p=>#[p,iV 0])++a0):=ai.trans (yH (fun z=>BJ (A4 L i) j++(z++a0)) aa)
              refine ⟨a0++(post++((AN L L.rights.n++Bp L L.duties.n))),?_⟩
              rw[HX.o]
              unfold BO
              rw[E,al]
              simp only[yl])
             obtain ⟨O,m⟩:=a6.o
             have U:=yb m
             clear m a7 ah aa
             go_wp2_with fail
             refine (Dh x.o hn (pre:=(((((Aq (Ak L.s)++Ar L L.lets.n)++Al L L.crops.n)++Ab L L.reaches.n)++Aw L L.farms.n)++AY L i++Aq (E2 L.rots i))++BJ (A4 L i) j) U.o 0 #[pV b2 (o2+j*8+2)] 1 rfl _ ak.o (by decide) (by simp) _ rfl).mono ?_
             rintro e w5 (⟨r,rfl,F⟩|⟨W,rfl,C⟩)
             rotate_left
             ·exact ⟨rfl,.inr ⟨W,rfl,C⟩⟩
             have H:=yb F
             clear F d B
             rcases H.o with ⟨rfl,K,h3⟩|⟨rfl,K,t⟩
             ·have u:Hid (∃O,Hu J W0 l Bc ((((((Aq (Ak L.s)++Ar L L.lets.n)++Al L L.crops.n)++Ab L L.reaches.n)++Aw L L.farms.n)++AY L i++Aq (E2 L.rots i))++BJ (A4 L i) (j+1)).length O w5):=yb ⟨K,by
               have Z:(BJ (A4 L i) (j+1)).length=(BJ (A4 L i) j).length+1:=by rw[show BJ (A4 L i) (j+1)=BJ (A4 L i) j++_ from Am _ j,ym];rfl
               have e:((((((Aq (Ak L.s)++Ar L L.lets.n)++Al L L.crops.n)++Ab L L.reaches.n)++Aw L L.farms.n)++AY L i++Aq (E2 L.rots i))++BJ (A4 L i) (j+1)).length=((((((Aq (Ak L.s)++Ar L L.lets.n)++Al L L.crops.n)++Ab L L.reaches.n)++Aw L L.farms.n)++AY L i++Aq (E2 L.rots i))++BJ (A4 L i) j).length+1:=by simp only[ym,Z];omega
               rw[e];exact h3⟩
              clear h3 H
              go_wp2
              first
              |exact ⟨⟨j+1,by omega,by go_num,u⟩,by simp[intOf];omega⟩
              |(refine ⟨?_,by simp[intOf];omega⟩;(repeat apply @Exists.intro Value);exact ⟨⟨j+1,by omega,by go_num,u⟩,rfl⟩)
             ·have D:=yb t
              clear t
              go_wp2
              refine xo (zf rfl _ _ _) rfl ?_
              exact .inl ⟨⟨_,rfl⟩,.inr ⟨_,D.o⟩⟩
            ·have ab:j=(A4 L i).n:=by omega
             rw[ab] at a6
             have u:Hid (∃O,Hu J W0 l Bc (((((Aq (Ak L.s)++Ar L L.lets.n)++Al L L.crops.n)++Ab L L.reaches.n)++Aw L L.farms.n)++AY L (i+1)).length O wq):=yb (a6.o.elim fun K h3=>⟨K,by
              have Z:(AY L (i+1))=AY L i++(Aq (E2 L.rots i)++BJ (A4 L i) (A4 L i).n):=Am _ i
              have e:(((((Aq (Ak L.s)++Ar L L.lets.n)++Al L L.crops.n)++Ab L L.reaches.n)++Aw L L.farms.n)++AY L (i+1)).length=((((((Aq (Ak L.s)++Ar L L.lets.n)++Al L L.crops.n)++Ab L L.reaches.n)++Aw L L.farms.n)++AY L i++Aq (E2 L.rots i))++BJ (A4 L i) (A4 L i).n).length:=by rw[Z];simp only[yl]
              rw[e];exact h3⟩)
             clear a6 ab d
             go_wp2
             first
             |exact ⟨⟨i+1,by omega,by go_num,u⟩,by simp[intOf];omega⟩
             |(refine ⟨?_,by simp[intOf];omega⟩;(repeat apply @Exists.intro Value);exact ⟨⟨i+1,by omega,by go_num,u⟩,rfl⟩)
          ·have A:i=L.rots.n:=by omega
           rw[A] at c
           have M:Hid (∃O,Hu J W0 l Bc ((((((Aq (Ak L.s)++Ar L L.lets.n)++Al L L.crops.n)++Ab L L.reaches.n)++Aw L L.farms.n)++AY L L.rots.n)++AN L 0).length O wr):=yb (by
            have:=c.o
            rw[show ((((((Aq (Ak L.s)++Ar L L.lets.n)++Al L L.crops.n)++Ab L L.reaches.n)++Aw L L.farms.n)++AY L L.rots.n)++AN L 0).length=(((((Aq (Ak L.s)++Ar L L.lets.n)++Al L L.crops.n)++Ab L L.reaches.n)++Aw L L.farms.n)++AY L L.rots.n).length by simp[AN]]
            exact this)
           clear c A
           have a:=f.o.rights
           unfold Av.v at a
           clear f
           go_wp2_with fail
           clear d a
           go_loopw [191] (fun I wr=>∃i:Nat,i<=L.rights.n∧I=iV i∧Hid (∃O,Hu J W0 l Bc ((((((Aq (Ak L.s)++Ar L L.lets.n)++Al L L.crops.n)++Ab L L.reaches.n)++Aw L L.farms.n)++AY L L.rots.n)++AN L i).length O wr)) (fun I _=>L.rights.n - (intOf I).toNat)
           case atStart=>exact ⟨0,yz _,rfl,M⟩
           case round=>
            clear M
            obtain ⟨i,hi,rfl,c⟩:=hrel
            have f:=yb (c.o.elim fun O h=>x.o.hd _ _ _ h.j)
            have d:=f.o.box
            by_cases q:i < L.rights.n
            ·obtain ⟨b,o,R,g⟩:=Y.o.rights.get q
             have a:=f.o.rights
             unfold Av.v at a
             rw[R] at a
             have a1:(i:Int) < (L.rights.n:Int):=by omega
             have S:L.rights.n<=140737488355328:=Y.o.rights.1
             have y:(fun i=>Aq (Jz L.rights i)) i=((#[pV b (o+i*37+7),pV b (o+i*37+13),pV b (o+i*37+19),pV b (o+i*37+25),pV b (o+i*37+31)]:Array Value).toList.map (fun p=>#[p,iV 0])):=by
              simp only[Aq,Jz,Av.ptr,g,zT,xx]
             have HP:Hid (∃post,X=((((((Aq (Ak L.s)++Ar L L.lets.n)++Al L L.crops.n)++Ab L L.reaches.n)++Aw L L.farms.n)++AY L L.rots.n)++AN L i)++((#[pV b (o+i*37+7),pV b (o+i*37+13),pV b (o+i*37+19),pV b (o+i*37+25),pV b (o+i*37+31)]:Array Value).toList.map (fun p=>#[p,iV 0])++post)):=yb (by
              obtain ⟨post,C⟩:=Bz (fun i=>Aq (Jz L.rights i)) q
              have E:AN L L.rights.n=AN L i++((#[pV b (o+i*37+7),pV b (o+i*37+13),pV b (o+i*37+19),pV b (o+i*37+25),pV b (o+i*37+31)]:Array Value).toList.map (fun p=>#[p,iV 0])++post):=C.trans (yH (fun z=>AN L i++(z++post)) y)
              refine ⟨(post++(Bp L L.duties.n)),?_⟩
              rw[HX.o]
              unfold BO
              rw[E]
              simp only[yl])
             clear y
             have V:=yb g
             clear g R
             obtain ⟨O,m⟩:=c.o
             go_wp2_with fail
             have G:=yb (m.below x.o (yg _ _).drew)
             have a2:=yb (m.below x.o (((yg _ _).alloc (ye _) (.cells #[pV b (o+i*37+7),pV b (o+i*37+13),pV b (o+i*37+19),pV b (o+i*37+25),pV b (o+i*37+31)] 134)).drew))
             have P:=yb (x.o.hd _ _ _ G.o.j)
             have T:=yb (x.o.hd _ _ _ a2.o.j)
             have Q:=P.o.box
             go_region_held2 (fun w'=>w'.cell? (aV Bs 0)=some (pV L.s 0)) (first|exact P.o.box|exact T.o.box|exact N.o.box)
              (first|(go_at_call 90;refine (Dh x.o hn (pre:=(((((Aq (Ak L.s)++Ar L L.lets.n)++Al L L.crops.n)++Ab L L.reaches.n)++Aw L L.farms.n)++AY L L.rots.n)++AN L i) G.o 0 _ 5 rfl _ HP.o (by decide) (by simp) _ rfl).mono ?_;rintro e w3 (⟨r,rfl,F⟩|⟨W,rfl,C⟩);rotate_left;exact ⟨rfl,.inr ⟨W,rfl,C⟩⟩;have N:=yb (F.elim (fun h=>h.2.elim fun O h=>x.o.hd _ _ _ h.j) (fun h=>h.2.elim fun O h=>x.o.hdx _ _ h));have H:=yb F;clear F))
             clear Q d a m
             rcases H.o with ⟨rfl,K,h3⟩|⟨rfl,K,t⟩
             ·have u:Hid (∃O,Hu J W0 l Bc ((((((Aq (Ak L.s)++Ar L L.lets.n)++Al L L.crops.n)++Ab L L.reaches.n)++Aw L L.farms.n)++AY L L.rots.n)++AN L (i+1)).length O w3):=yb ⟨K,by
               have Z:(AN L (i+1)).length=(AN L i).length+5:=by rw[show AN L (i+1)=AN L i++_ from Am _ i,ym];rfl
               have e:((((((Aq (Ak L.s)++Ar L L.lets.n)++Al L L.crops.n)++Ab L L.reaches.n)++Aw L L.farms.n)++AY L L.rots.n)++AN L (i+1)).length=((((((Aq (Ak L.s)++Ar L L.lets.n)++Al L L.crops.n)++Ab L L.reaches.n)++Aw L L.farms.n)++AY L L.rots.n)++AN L i).length+5:=by simp only[ym,Z];omega
               rw[e];exact h3⟩
              clear h3 H
              go_wp2
              first
              |exact ⟨⟨i+1,by omega,by go_num,u⟩,by simp[intOf];omega⟩
              |(refine ⟨?_,by simp[intOf];omega⟩;(repeat apply @Exists.intro Value);exact ⟨⟨i+1,by omega,by go_num,u⟩,rfl⟩)
             ·have D:=yb t
              clear t
              go_wp2
              refine xo (zf rfl _ _ _) rfl ?_
              exact .inl ⟨⟨_,rfl⟩,.inr ⟨_,D.o⟩⟩
            ·have A:i=L.rights.n:=by omega
             rw[A] at c
             have M:Hid (∃O,Hu J W0 l Bc (((((((Aq (Ak L.s)++Ar L L.lets.n)++Al L L.crops.n)++Ab L L.reaches.n)++Aw L L.farms.n)++AY L L.rots.n)++AN L L.rights.n)++Bp L 0).length O wr):=yb (by
              have:=c.o
              rw[show (((((((Aq (Ak L.s)++Ar L L.lets.n)++Al L L.crops.n)++Ab L L.reaches.n)++Aw L L.farms.n)++AY L L.rots.n)++AN L L.rights.n)++Bp L 0).length=((((((Aq (Ak L.s)++Ar L L.lets.n)++Al L L.crops.n)++Ab L L.reaches.n)++Aw L L.farms.n)++AY L L.rots.n)++AN L L.rights.n).length by simp[Bp]]
              exact this)
             clear c A
             have a:=f.o.duties
             unfold Av.v at a
             clear f
             go_wp2_with fail
             clear d a
             go_loopw [225] (fun I wr=>∃i:Nat,i<=L.duties.n∧I=iV i∧Hid (∃O,Hu J W0 l Bc (((((((Aq (Ak L.s)++Ar L L.lets.n)++Al L L.crops.n)++Ab L L.reaches.n)++Aw L L.farms.n)++AY L L.rots.n)++AN L L.rights.n)++Bp L i).length O wr)) (fun I _=>L.duties.n - (intOf I).toNat)
             case atStart=>exact ⟨0,yz _,rfl,M⟩
             case round=>
              clear M
              obtain ⟨i,hi,rfl,c⟩:=hrel
              have f:=yb (c.o.elim fun O h=>x.o.hd _ _ _ h.j)
              have d:=f.o.box
              by_cases q:i < L.duties.n
              ·obtain ⟨b,o,R,g⟩:=Y.o.duties.get q
               have a:=f.o.duties
               unfold Av.v at a
               rw[R] at a
               have a1:(i:Int) < (L.duties.n:Int):=by omega
               have S:L.duties.n<=140737488355328:=Y.o.duties.1
               have y:(fun i=>Aq [L.duties.ptr 11 i 5]) i=((#[pV b (o+i*11+5)]:Array Value).toList.map (fun p=>#[p,iV 0])):=by
                simp only[Aq,Av.ptr,g,zT,xx]
               have HP:Hid (∃post,X=(((((((Aq (Ak L.s)++Ar L L.lets.n)++Al L L.crops.n)++Ab L L.reaches.n)++Aw L L.farms.n)++AY L L.rots.n)++AN L L.rights.n)++Bp L i)++((#[pV b (o+i*11+5)]:Array Value).toList.map (fun p=>#[p,iV 0])++post)):=yb (by
                obtain ⟨post,C⟩:=Bz (fun i=>Aq [L.duties.ptr 11 i 5]) q
                have E:Bp L L.duties.n=Bp L i++((#[pV b (o+i*11+5)]:Array Value).toList.map (fun p=>#[p,iV 0])++post):=C.trans (yH (fun z=>Bp L i++(z++post)) y)
                refine ⟨post,?_⟩
                rw[HX.o]
                unfold BO
                rw[E]
                simp only[yl])
               clear y
               have V:=yb g
               clear g R
               obtain ⟨O,m⟩:=c.o
               have U:=yb m
               clear m
               go_wp2_with fail
               refine (Dh x.o hn (pre:=((((((Aq (Ak L.s)++Ar L L.lets.n)++Al L L.crops.n)++Ab L L.reaches.n)++Aw L L.farms.n)++AY L L.rots.n)++AN L L.rights.n)++Bp L i) U.o 0 #[pV b (o+i*11+5)] 1 rfl _ HP.o (by decide) (by simp) _ rfl).mono ?_
               rintro e w3 (⟨r,rfl,F⟩|⟨W,rfl,C⟩)
               rotate_left
               ·exact ⟨rfl,.inr ⟨W,rfl,C⟩⟩
               have H:=yb F
               clear F d a
               rcases H.o with ⟨rfl,K,h3⟩|⟨rfl,K,t⟩
               ·have u:Hid (∃O,Hu J W0 l Bc (((((((Aq (Ak L.s)++Ar L L.lets.n)++Al L L.crops.n)++Ab L L.reaches.n)++Aw L L.farms.n)++AY L L.rots.n)++AN L L.rights.n)++Bp L (i+1)).length O w3):=yb ⟨K,by
                 have Z:(Bp L (i+1)).length=(Bp L i).length+1:=by rw[show Bp L (i+1)=Bp L i++_ from Am _ i,ym];rfl
                 have e:(((((((Aq (Ak L.s)++Ar L L.lets.n)++Al L L.crops.n)++Ab L L.reaches.n)++Aw L L.farms.n)++AY L L.rots.n)++AN L L.rights.n)++Bp L (i+1)).length=(((((((Aq (Ak L.s)++Ar L L.lets.n)++Al L L.crops.n)++Ab L L.reaches.n)++Aw L L.farms.n)++AY L L.rots.n)++AN L L.rights.n)++Bp L i).length+1:=by simp only[ym,Z];omega
                 rw[e];exact h3⟩
                clear h3 H
                go_wp2
                first
                |exact ⟨⟨i+1,by omega,by go_num,u⟩,by simp[intOf];omega⟩
                |(refine ⟨?_,by simp[intOf];omega⟩;(repeat apply @Exists.intro Value);exact ⟨⟨i+1,by omega,by go_num,u⟩,rfl⟩)
               ·have D:=yb t
                clear t
                go_wp2
                refine xo (zf rfl _ _ _) rfl ?_
                exact .inl ⟨⟨_,rfl⟩,.inr ⟨_,D.o⟩⟩
              ·have A:i=L.duties.n:=by omega
               rw[A] at c
               have M:Hid (∃O,J X.length O wr):=yb (c.o.elim fun O h=>⟨O,by
                have:=h.j
                rw[show (((((((Aq (Ak L.s)++Ar L L.lets.n)++Al L L.crops.n)++Ab L L.reaches.n)++Aw L L.farms.n)++AY L L.rots.n)++AN L L.rights.n)++Bp L L.duties.n).length=X.length by rw[HX.o];unfold BO;simp] at this
                exact this⟩)
               clear c A f d
               go_wp2
               go_end0
               exact .inl ⟨⟨_,rfl⟩,.inl M.o⟩
end Go.Proofs.Ytghepahgkcigpaa
