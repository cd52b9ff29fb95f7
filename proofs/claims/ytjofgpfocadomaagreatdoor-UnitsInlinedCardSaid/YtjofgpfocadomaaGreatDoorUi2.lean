/- The iterator over a source's expressions: the walk. -/
import Derived.Test.YtjofgpfocadomaaGreatDoorUi0
import Derived.Deep.RegionHeld2
import Derived.StillTailTactics
set_option maxRecDepth 100000
set_option maxHeartbeats 16000000
set_option linter.unusedSimpArgs false
namespace Go.Proofs.YtjofgpfocadomaaGreatDoor
open Go.RowKit
def V4(J:Nat->NP->World->Prop)(Jx:NP->World->Prop)(Jp:List PanicEntry->NP->World->Prop)(k:Nat)(e:Ending)(W':World):Prop:=
 ((∃v,e=.returned v)∧((∃O,J k O W')∨∃O,Jx O W'))∨∃a,e=.panicked a∧∃O,Jp a O W'
theorem I5.start{n l:Nat}{P:Program}{xs:List (Array Value)}{Hd:World->Prop}{J:Nat->NP->World->Prop}{Jx:NP->World->Prop}{Jp:List PanicEntry->NP->World->Prop}{W0:World}(a:Wf n l P xs Hd J Jx Jp W0)(h0:J 0 (fun _=>False) W0)(t:TypeId):
  I5 J W0 l W0.heap.size 0 (fun b=>False∨(W0.heap.size<=b∧b < (W0.alloc (.cells #[.func (.yield l) #[] #[]] t)).heap.size)) (W0.alloc (.cells #[.func (.yield l) #[] #[]] t)):=
 ⟨CD a.stays h0 ((yg _ _).alloc (yf _) _),.inr ⟨yf _,by simp⟩,by
  have:(W0.alloc (.cells #[.func (.yield l) #[] #[]] t)).heap[W0.heap.size]?=some (.cells #[.func (.yield l) #[] #[]] t (0,0)):=World.alloc_heap_new _ _
  simp only[World.cell?,this];simp,by simp,fun b hb=>by rcases hb with hb|hb;exact hb.elim;exact hb⟩
theorem Pu(n:Nat)(hn:1<=n)(l Bs:Nat)(L:Bt)(hL:L.Ok)(J:Nat->NP->World->Prop)(Jx:NP->World->Prop)(Jp:List PanicEntry->NP->World->Prop)(W0:World)
 (hc:Wf (n - 1) l Tryz.prog (BJ L) (IA L Bs) J Jx Jp W0)(h0:J 0 (fun _=>False) W0):
  Calls Tryz.prog 92 #[.func (.yield l) #[] #[],.pointer (some ⟨Bs,0,none⟩)] W0 (V4 J Jx Jp (BJ L).length):=by
 have ao:∀(fn:Fn) (first cap:Array Value) (w:World),(Instr.makeFunc fn first cap).run Tryz.prog w=.ok (.func fn first cap) w:=fun _ _ _ _=>rfl
 have x:=yb hc
 have W:=yb hL
 have HI:=yb (I5.start hc h0 149)
 obtain ⟨X,hX⟩:∃X,X=BJ L:=⟨_,rfl⟩
 have HX:=yb hX
 rw[<-hX] at x ⊢
 clear hc hL h0 hX
 go_enter Tryz.func92,Tryz.ntmps92
 go_wp2_with fail
 generalize hw:W0.alloc (.cells #[.func (.yield l) #[] #[]] 149)=w1 at HI ⊢
 clear hw
 generalize W0.heap.size=Bc at HI ⊢
 have HH:=yb (x.o.hd _ _ _ HI.o.j)
 have H:=yb (HI.o.below x.o (yg _ _).drew)
 have M:=yb (x.o.hd _ _ _ H.o.j)
 have T:=yb (x.o.hd _ _ _ (HI.o.below x.o (((yg _ _).alloc (yf _) (.cells #[pV L.s 1,pV L.s 7,pV L.s 13] 150)).drew)).j)
 have ad:Hid (∃post,X=[]++((#[pV L.s 1,pV L.s 7,pV L.s 13]:Array Value).toList.map (fun p=>#[p,iV 0])++post)):=yb ⟨_,by rw[HX.o];rfl⟩
 go_region_held2 (fun w'=>w'.cell? (aV Bs 0)=some (pV L.s 0)) (first|exact M.o.box|exact T.o.box|exact K.o.box)
  (first|(go_at_call 93;refine (Df x.o hn (pre:=[]) H.o 0 _ 3 rfl _ ad.o (by decide) (by simp) _ rfl).mono ?_;rintro e w2 (⟨r,rfl,hr⟩|⟨U,rfl,C⟩);rotate_left;exact ⟨rfl,.inr ⟨U,rfl,C⟩⟩;have K:=yb (hr.elim (fun h=>h.2.elim fun O h=>x.o.hd _ _ _ h.j) (fun h=>h.2.elim fun O h=>x.o.hdx _ _ h));have G:=yb hr;clear hr))
 rcases G.o with ⟨rfl,O2,ag⟩|⟨rfl,O2,af⟩
 case inr=>
  have ai:=yb af
  clear af G K
  go_wp2
  refine zw (zq rfl _ _ _) rfl ?_
  exact .inl ⟨⟨_,rfl⟩,.inr ⟨_,ai.o⟩⟩
 have I:Hid (∃O,I5 J W0 l Bc (An (Af L.s)++Ao L 0).length O w2):=yb ⟨O2,ag⟩
 clear ag G H M T ad HI HH
 have c:=K.o.box
 have a:=K.o.lets
 unfold Au.v at a
 go_wp2_with fail
 clear K c a
 go_loopw [34] (fun F wr=>∃i:Nat,i<=L.lets.n∧F=iV i∧Hid (∃O,I5 J W0 l Bc (An (Af L.s)++Ao L i).length O wr)) (fun F _=>L.lets.n - (intOf F).toNat)
 case atStart=>exact ⟨0,yK _,rfl,I⟩
 case round=>
  clear I
  obtain ⟨i,hi,rfl,d⟩:=hrel
  have f:=yb (d.o.elim fun O h=>x.o.hd _ _ _ h.j)
  have c:=f.o.box
  by_cases q:i < L.lets.n
  ·obtain ⟨b,o,Q,g⟩:=W.o.lets.get q
   have a:=f.o.lets
   unfold Au.v at a
   rw[Q] at a
   have a2:(i:Int) < (L.lets.n:Int):=by omega
   have R:L.lets.n<=140737488355328:=W.o.lets.1
   have y:(fun i=> [#[L.lets.ptr 7 i 1,iV (1+(i:Int))]]) i=((#[pV b (o+i*7+1)]:Array Value).toList.map (fun p=>#[p,iV (1+(i:Int))])):=by
    simp only[Au.ptr,g,zv,zT]
   have HP:Hid (∃post,X=(An (Af L.s)++Ao L i)++((#[pV b (o+i*7+1)]:Array Value).toList.map (fun p=>#[p,iV (1+(i:Int))])++post)):=yb (by
    obtain ⟨post,C⟩:=Bw (fun i=> [#[L.lets.ptr 7 i 1,iV (1+(i:Int))]]) q
    have D:Ao L L.lets.n=Ao L i++((#[pV b (o+i*7+1)]:Array Value).toList.map (fun p=>#[p,iV (1+(i:Int))])++post):=C.trans (yF (fun z=>Ao L i++(z++post)) y)
    refine ⟨(post++((Ag L L.crops.n++(Aa L L.reaches.n++(As L L.farms.n++(AV L L.rots.n++(AF L L.rights.n++Bj L L.duties.n))))))),?_⟩
    rw[HX.o]
    unfold BJ
    rw[D]
    simp only[yL])
   clear y
   have V:=yb g
   clear g Q
   obtain ⟨O,m⟩:=d.o
   have S:=yb m
   clear m
   go_wp2_with fail
   refine (Df x.o hn (pre:=An (Af L.s)++Ao L i) S.o (1+(i:Int)) #[pV b (o+i*7+1)] 1 rfl _ HP.o (by decide) (by simp) _ rfl).mono ?_
   rintro e w3 (⟨r,rfl,hr⟩|⟨U,rfl,C⟩)
   rotate_left
   ·exact ⟨rfl,.inr ⟨U,rfl,C⟩⟩
   have G:=yb hr
   clear hr c a
   rcases G.o with ⟨rfl,N,h3⟩|⟨rfl,N,t⟩
   ·have u:Hid (∃O,I5 J W0 l Bc (An (Af L.s)++Ao L (i+1)).length O w3):=yb ⟨N,by
     have Y:(Ao L (i+1)).length=(Ao L i).length+1:=by rw[show Ao L (i+1)=Ao L i++_ from Aj _ i,ym];rfl
     have e:(An (Af L.s)++Ao L (i+1)).length=(An (Af L.s)++Ao L i).length+1:=by simp only[ym,Y];omega
     rw[e];exact h3⟩
    clear h3 G
    go_wp2
    first
    |exact ⟨⟨i+1,by omega,by go_num,u⟩,by simp[intOf];omega⟩
    |(refine ⟨?_,by simp[intOf];omega⟩;(repeat apply @Exists.intro Value);exact ⟨⟨i+1,by omega,by go_num,u⟩,rfl⟩)
   ·have E:=yb t
    clear t
    go_wp2
    refine zw (zq rfl _ _ _) rfl ?_
    exact .inl ⟨⟨_,rfl⟩,.inr ⟨_,E.o⟩⟩
  ·have A:i=L.lets.n:=by omega
   rw[A] at d
   have I:Hid (∃O,I5 J W0 l Bc ((An (Af L.s)++Ao L L.lets.n)++Ag L 0).length O wr):=yb (by
    have:=d.o
    rw[show ((An (Af L.s)++Ao L L.lets.n)++Ag L 0).length=(An (Af L.s)++Ao L L.lets.n).length by simp[Ag]]
    exact this)
   clear d A
   have a:=f.o.crops
   unfold Au.v at a
   clear f
   go_wp2_with fail
   clear c a
   go_loopw [56] (fun F wr=>∃i:Nat,i<=L.crops.n∧F=iV i∧Hid (∃O,I5 J W0 l Bc ((An (Af L.s)++Ao L L.lets.n)++Ag L i).length O wr)) (fun F _=>L.crops.n - (intOf F).toNat)
   case atStart=>exact ⟨0,yK _,rfl,I⟩
   case round=>
    clear I
    obtain ⟨i,hi,rfl,d⟩:=hrel
    have f:=yb (d.o.elim fun O h=>x.o.hd _ _ _ h.j)
    have c:=f.o.box
    by_cases q:i < L.crops.n
    ·obtain ⟨b,o,Q,g⟩:=W.o.crops.get q
     have a:=f.o.crops
     unfold Au.v at a
     rw[Q] at a
     have a2:(i:Int) < (L.crops.n:Int):=by omega
     have R:L.crops.n<=140737488355328:=W.o.crops.1
     have y:(fun i=>An [L.crops.ptr 7 i 1]) i=((#[pV b (o+i*7+1)]:Array Value).toList.map (fun p=>#[p,iV 0])):=by
      simp only[An,Au.ptr,g,zv,zT]
     have HP:Hid (∃post,X=((An (Af L.s)++Ao L L.lets.n)++Ag L i)++((#[pV b (o+i*7+1)]:Array Value).toList.map (fun p=>#[p,iV 0])++post)):=yb (by
      obtain ⟨post,C⟩:=Bw (fun i=>An [L.crops.ptr 7 i 1]) q
      have D:Ag L L.crops.n=Ag L i++((#[pV b (o+i*7+1)]:Array Value).toList.map (fun p=>#[p,iV 0])++post):=C.trans (yF (fun z=>Ag L i++(z++post)) y)
      refine ⟨(post++((Aa L L.reaches.n++(As L L.farms.n++(AV L L.rots.n++(AF L L.rights.n++Bj L L.duties.n)))))),?_⟩
      rw[HX.o]
      unfold BJ
      rw[D]
      simp only[yL])
     clear y
     have V:=yb g
     clear g Q
     obtain ⟨O,m⟩:=d.o
     have S:=yb m
     clear m
     go_wp2_with fail
     refine (Df x.o hn (pre:=(An (Af L.s)++Ao L L.lets.n)++Ag L i) S.o 0 #[pV b (o+i*7+1)] 1 rfl _ HP.o (by decide) (by simp) _ rfl).mono ?_
     rintro e w3 (⟨r,rfl,hr⟩|⟨U,rfl,C⟩)
     rotate_left
     ·exact ⟨rfl,.inr ⟨U,rfl,C⟩⟩
     have G:=yb hr
     clear hr c a
     rcases G.o with ⟨rfl,N,h3⟩|⟨rfl,N,t⟩
     ·have u:Hid (∃O,I5 J W0 l Bc ((An (Af L.s)++Ao L L.lets.n)++Ag L (i+1)).length O w3):=yb ⟨N,by
       have Y:(Ag L (i+1)).length=(Ag L i).length+1:=by rw[show Ag L (i+1)=Ag L i++_ from Aj _ i,ym];rfl
       have e:((An (Af L.s)++Ao L L.lets.n)++Ag L (i+1)).length=((An (Af L.s)++Ao L L.lets.n)++Ag L i).length+1:=by simp only[ym,Y];omega
       rw[e];exact h3⟩
      clear h3 G
      go_wp2
      first
      |exact ⟨⟨i+1,by omega,by go_num,u⟩,by simp[intOf];omega⟩
      |(refine ⟨?_,by simp[intOf];omega⟩;(repeat apply @Exists.intro Value);exact ⟨⟨i+1,by omega,by go_num,u⟩,rfl⟩)
     ·have E:=yb t
      clear t
      go_wp2
      refine zw (zq rfl _ _ _) rfl ?_
      exact .inl ⟨⟨_,rfl⟩,.inr ⟨_,E.o⟩⟩
    ·have A:i=L.crops.n:=by omega
     rw[A] at d
     have I:Hid (∃O,I5 J W0 l Bc (((An (Af L.s)++Ao L L.lets.n)++Ag L L.crops.n)++Aa L 0).length O wr):=yb (by
      have:=d.o
      rw[show (((An (Af L.s)++Ao L L.lets.n)++Ag L L.crops.n)++Aa L 0).length=((An (Af L.s)++Ao L L.lets.n)++Ag L L.crops.n).length by simp[Aa]]
      exact this)
     clear d A
     have a:=f.o.reaches
     unfold Au.v at a
     clear f
     go_wp2_with fail
     clear c a
     go_loopw [76] (fun F wr=>∃i:Nat,i<=L.reaches.n∧F=iV i∧Hid (∃O,I5 J W0 l Bc (((An (Af L.s)++Ao L L.lets.n)++Ag L L.crops.n)++Aa L i).length O wr)) (fun F _=>L.reaches.n - (intOf F).toNat)
     case atStart=>exact ⟨0,yK _,rfl,I⟩
     case round=>
      clear I
      obtain ⟨i,hi,rfl,d⟩:=hrel
      have f:=yb (d.o.elim fun O h=>x.o.hd _ _ _ h.j)
      have c:=f.o.box
      by_cases q:i < L.reaches.n
      ·obtain ⟨b,o,Q,g⟩:=W.o.reaches.get q
       have a:=f.o.reaches
       unfold Au.v at a
       rw[Q] at a
       have a2:(i:Int) < (L.reaches.n:Int):=by omega
       have R:L.reaches.n<=140737488355328:=W.o.reaches.1
       have y:(fun i=>An (K9 L.reaches i)) i=((#[pV b (o+i*51+3),pV b (o+i*51+9),pV b (o+i*51+15),pV b (o+i*51+21),pV b (o+i*51+27),pV b (o+i*51+33),pV b (o+i*51+39),pV b (o+i*51+45)]:Array Value).toList.map (fun p=>#[p,iV 0])):=by
        simp only[An,K9,Au.ptr,g,zv,zT]
       have HP:Hid (∃post,X=(((An (Af L.s)++Ao L L.lets.n)++Ag L L.crops.n)++Aa L i)++((#[pV b (o+i*51+3),pV b (o+i*51+9),pV b (o+i*51+15),pV b (o+i*51+21),pV b (o+i*51+27),pV b (o+i*51+33),pV b (o+i*51+39),pV b (o+i*51+45)]:Array Value).toList.map (fun p=>#[p,iV 0])++post)):=yb (by
        obtain ⟨post,C⟩:=Bw (fun i=>An (K9 L.reaches i)) q
        have D:Aa L L.reaches.n=Aa L i++((#[pV b (o+i*51+3),pV b (o+i*51+9),pV b (o+i*51+15),pV b (o+i*51+21),pV b (o+i*51+27),pV b (o+i*51+33),pV b (o+i*51+39),pV b (o+i*51+45)]:Array Value).toList.map (fun p=>#[p,iV 0])++post):=C.trans (yF (fun z=>Aa L i++(z++post)) y)
        refine ⟨(post++((As L L.farms.n++(AV L L.rots.n++(AF L L.rights.n++Bj L L.duties.n))))),?_⟩
        rw[HX.o]
        unfold BJ
        rw[D]
        simp only[yL])
       clear y
       have V:=yb g
       clear g Q
       obtain ⟨O,m⟩:=d.o
       go_wp2_with fail
       have H:=yb (m.below x.o (yg _ _).drew)
       have a0:=yb (m.below x.o (((yg _ _).alloc (yf _) (.cells #[pV b (o+i*51+3),pV b (o+i*51+9),pV b (o+i*51+15),pV b (o+i*51+21),pV b (o+i*51+27),pV b (o+i*51+33),pV b (o+i*51+39),pV b (o+i*51+45)] 150)).drew))
       have M:=yb (x.o.hd _ _ _ H.o.j)
       have T:=yb (x.o.hd _ _ _ a0.o.j)
       have P:=M.o.box
       go_region_held2 (fun w'=>w'.cell? (aV Bs 0)=some (pV L.s 0)) (first|exact M.o.box|exact T.o.box|exact K.o.box)
        (first|(go_at_call 93;refine (Df x.o hn (pre:=((An (Af L.s)++Ao L L.lets.n)++Ag L L.crops.n)++Aa L i) H.o 0 _ 8 rfl _ HP.o (by decide) (by simp) _ rfl).mono ?_;rintro e w3 (⟨r,rfl,hr⟩|⟨U,rfl,C⟩);rotate_left;exact ⟨rfl,.inr ⟨U,rfl,C⟩⟩;have K:=yb (hr.elim (fun h=>h.2.elim fun O h=>x.o.hd _ _ _ h.j) (fun h=>h.2.elim fun O h=>x.o.hdx _ _ h));have G:=yb hr;clear hr))
       clear P c a m
       rcases G.o with ⟨rfl,N,h3⟩|⟨rfl,N,t⟩
       ·have u:Hid (∃O,I5 J W0 l Bc (((An (Af L.s)++Ao L L.lets.n)++Ag L L.crops.n)++Aa L (i+1)).length O w3):=yb ⟨N,by
         have Y:(Aa L (i+1)).length=(Aa L i).length+8:=by rw[show Aa L (i+1)=Aa L i++_ from Aj _ i,ym];rfl
         have e:(((An (Af L.s)++Ao L L.lets.n)++Ag L L.crops.n)++Aa L (i+1)).length=(((An (Af L.s)++Ao L L.lets.n)++Ag L L.crops.n)++Aa L i).length+8:=by simp only[ym,Y];omega
         rw[e];exact h3⟩
        clear h3 G
        go_wp2
        first
        |exact ⟨⟨i+1,by omega,by go_num,u⟩,by simp[intOf];omega⟩
        |(refine ⟨?_,by simp[intOf];omega⟩;(repeat apply @Exists.intro Value);exact ⟨⟨i+1,by omega,by go_num,u⟩,rfl⟩)
       ·have E:=yb t
        clear t
        go_wp2
        refine zw (zq rfl _ _ _) rfl ?_
        exact .inl ⟨⟨_,rfl⟩,.inr ⟨_,E.o⟩⟩
      ·have A:i=L.reaches.n:=by omega
       rw[A] at d
       have I:Hid (∃O,I5 J W0 l Bc ((((An (Af L.s)++Ao L L.lets.n)++Ag L L.crops.n)++Aa L L.reaches.n)++As L 0).length O wr):=yb (by
        have:=d.o
        rw[show ((((An (Af L.s)++Ao L L.lets.n)++Ag L L.crops.n)++Aa L L.reaches.n)++As L 0).length=(((An (Af L.s)++Ao L L.lets.n)++Ag L L.crops.n)++Aa L L.reaches.n).length by simp[As]]
        exact this)
       clear d A
       have a:=f.o.farms
       unfold Au.v at a
       clear f
       go_wp2_with fail
       clear c a
       go_loopw [123] (fun F wr=>∃i:Nat,i<=L.farms.n∧F=iV i∧Hid (∃O,I5 J W0 l Bc ((((An (Af L.s)++Ao L L.lets.n)++Ag L L.crops.n)++Aa L L.reaches.n)++As L i).length O wr)) (fun F _=>L.farms.n - (intOf F).toNat)
       case atStart=>exact ⟨0,yK _,rfl,I⟩
       case round=>
        clear I
        obtain ⟨i,hi,rfl,d⟩:=hrel
        have f:=yb (d.o.elim fun O h=>x.o.hd _ _ _ h.j)
        have c:=f.o.box
        by_cases q:i < L.farms.n
        ·obtain ⟨b,o,Q,g⟩:=W.o.farms.get q
         have a:=f.o.farms
         unfold Au.v at a
         rw[Q] at a
         have a2:(i:Int) < (L.farms.n:Int):=by omega
         have R:L.farms.n<=140737488355328:=W.o.farms.1
         have y:(fun i=>An [L.farms.ptr 12 i 4]) i=((#[pV b (o+i*12+4)]:Array Value).toList.map (fun p=>#[p,iV 0])):=by
          simp only[An,Au.ptr,g,zv,zT]
         have HP:Hid (∃post,X=((((An (Af L.s)++Ao L L.lets.n)++Ag L L.crops.n)++Aa L L.reaches.n)++As L i)++((#[pV b (o+i*12+4)]:Array Value).toList.map (fun p=>#[p,iV 0])++post)):=yb (by
          obtain ⟨post,C⟩:=Bw (fun i=>An [L.farms.ptr 12 i 4]) q
          have D:As L L.farms.n=As L i++((#[pV b (o+i*12+4)]:Array Value).toList.map (fun p=>#[p,iV 0])++post):=C.trans (yF (fun z=>As L i++(z++post)) y)
          refine ⟨(post++((AV L L.rots.n++(AF L L.rights.n++Bj L L.duties.n)))),?_⟩
          rw[HX.o]
          unfold BJ
          rw[D]
          simp only[yL])
         clear y
         have V:=yb g
         clear g Q
         obtain ⟨O,m⟩:=d.o
         have S:=yb m
         clear m
         go_wp2_with fail
         refine (Df x.o hn (pre:=(((An (Af L.s)++Ao L L.lets.n)++Ag L L.crops.n)++Aa L L.reaches.n)++As L i) S.o 0 #[pV b (o+i*12+4)] 1 rfl _ HP.o (by decide) (by simp) _ rfl).mono ?_
         rintro e w3 (⟨r,rfl,hr⟩|⟨U,rfl,C⟩)
         rotate_left
         ·exact ⟨rfl,.inr ⟨U,rfl,C⟩⟩
         have G:=yb hr
         clear hr c a
         rcases G.o with ⟨rfl,N,h3⟩|⟨rfl,N,t⟩
         ·have u:Hid (∃O,I5 J W0 l Bc ((((An (Af L.s)++Ao L L.lets.n)++Ag L L.crops.n)++Aa L L.reaches.n)++As L (i+1)).length O w3):=yb ⟨N,by
           have Y:(As L (i+1)).length=(As L i).length+1:=by rw[show As L (i+1)=As L i++_ from Aj _ i,ym];rfl
           have e:((((An (Af L.s)++Ao L L.lets.n)++Ag L L.crops.n)++Aa L L.reaches.n)++As L (i+1)).length=((((An (Af L.s)++Ao L L.lets.n)++Ag L L.crops.n)++Aa L L.reaches.n)++As L i).length+1:=by simp only[ym,Y];omega
           rw[e];exact h3⟩
          clear h3 G
          go_wp2
          first
          |exact ⟨⟨i+1,by omega,by go_num,u⟩,by simp[intOf];omega⟩
          |(refine ⟨?_,by simp[intOf];omega⟩;(repeat apply @Exists.intro Value);exact ⟨⟨i+1,by omega,by go_num,u⟩,rfl⟩)
         ·have E:=yb t
          clear t
          go_wp2
          refine zw (zq rfl _ _ _) rfl ?_
          exact .inl ⟨⟨_,rfl⟩,.inr ⟨_,E.o⟩⟩
        ·have A:i=L.farms.n:=by omega
         rw[A] at d
         have I:Hid (∃O,I5 J W0 l Bc (((((An (Af L.s)++Ao L L.lets.n)++Ag L L.crops.n)++Aa L L.reaches.n)++As L L.farms.n)++AV L 0).length O wr):=yb (by
          have:=d.o
          rw[show (((((An (Af L.s)++Ao L L.lets.n)++Ag L L.crops.n)++Aa L L.reaches.n)++As L L.farms.n)++AV L 0).length=((((An (Af L.s)++Ao L L.lets.n)++Ag L L.crops.n)++Aa L L.reaches.n)++As L L.farms.n).length by simp[AV]]
          exact this)
         clear d A
         have a:=f.o.rots
         unfold Au.v at a
         clear f
         go_wp2_with fail
         clear c a
         go_loopw [143] (fun F wr=>∃i:Nat,i<=L.rots.n∧F=iV i∧Hid (∃O,I5 J W0 l Bc (((((An (Af L.s)++Ao L L.lets.n)++Ag L L.crops.n)++Aa L L.reaches.n)++As L L.farms.n)++AV L i).length O wr)) (fun F _=>L.rots.n - (intOf F).toNat)
         case atStart=>exact ⟨0,yK _,rfl,I⟩
         case round=>
          clear I
          obtain ⟨i,hi,rfl,d⟩:=hrel
          have f:=yb (d.o.elim fun O h=>x.o.hd _ _ _ h.j)
          have c:=f.o.box
          by_cases q:i < L.rots.n
          ·obtain ⟨b,o,Q,g⟩:=W.o.rots.get q
           have a:=f.o.rots
           unfold Au.v at a
           rw[Q] at a
           have a2:(i:Int) < (L.rots.n:Int):=by omega
           have R:L.rots.n<=140737488355328:=W.o.rots.1
           have y:(fun i=>An (Eh L.rots i)++BF (A2 L i) (A2 L i).n) i=((#[pV b (o+i*23+4),pV b (o+i*23+10),pV b (o+i*23+16)]:Array Value).toList.map (fun p=>#[p,iV 0])++BF (A2 L i) (A2 L i).n):=by
            simp only[An,Eh,Au.ptr,g,zv,zT]
           have HP:Hid (∃post,X=(((((An (Af L.s)++Ao L L.lets.n)++Ag L L.crops.n)++Aa L L.reaches.n)++As L L.farms.n)++AV L i)++((#[pV b (o+i*23+4),pV b (o+i*23+10),pV b (o+i*23+16)]:Array Value).toList.map (fun p=>#[p,iV 0])++post)):=yb (by
            obtain ⟨post,C⟩:=Bw (fun i=>An (Eh L.rots i)++BF (A2 L i) (A2 L i).n) q
            have D:AV L L.rots.n=AV L i++((#[pV b (o+i*23+4),pV b (o+i*23+10),pV b (o+i*23+16)]:Array Value).toList.map (fun p=>#[p,iV 0])++BF (A2 L i) (A2 L i).n++post):=C.trans (yF (fun z=>AV L i++(z++post)) y)
            refine ⟨BF (A2 L i) (A2 L i).n++(post++((AF L L.rights.n++Bj L L.duties.n))),?_⟩
            rw[HX.o]
            unfold BJ
            rw[D]
            simp only[yL])
           clear y
           have V:=yb g
           clear g Q
           obtain ⟨O,m⟩:=d.o
           go_wp2_with fail
           have H:=yb (m.below x.o (yg _ _).drew)
           have a0:=yb (m.below x.o (((yg _ _).alloc (yf _) (.cells #[pV b (o+i*23+4),pV b (o+i*23+10),pV b (o+i*23+16)] 150)).drew))
           have M:=yb (x.o.hd _ _ _ H.o.j)
           have T:=yb (x.o.hd _ _ _ a0.o.j)
           have P:=M.o.box
           go_region_held2 (fun w'=>w'.cell? (aV Bs 0)=some (pV L.s 0)) (first|exact M.o.box|exact T.o.box|exact K.o.box)
            (first|(go_at_call 93;refine (Df x.o hn (pre:=((((An (Af L.s)++Ao L L.lets.n)++Ag L L.crops.n)++Aa L L.reaches.n)++As L L.farms.n)++AV L i) H.o 0 _ 3 rfl _ HP.o (by decide) (by simp) _ rfl).mono ?_;rintro e w3 (⟨r,rfl,hr⟩|⟨U,rfl,C⟩);rotate_left;exact ⟨rfl,.inr ⟨U,rfl,C⟩⟩;have K:=yb (hr.elim (fun h=>h.2.elim fun O h=>x.o.hd _ _ _ h.j) (fun h=>h.2.elim fun O h=>x.o.hdx _ _ h));have G:=yb hr;clear hr))
           clear P c a m
           rcases G.o with ⟨rfl,N,h3⟩|⟨rfl,N,t⟩
           case inr=>
            have E:=yb t
            clear t
            go_wp2
            refine zw (zq rfl _ _ _) rfl ?_
            exact .inl ⟨⟨_,rfl⟩,.inr ⟨_,E.o⟩⟩
           have I:Hid (∃O,I5 J W0 l Bc ((((((An (Af L.s)++Ao L L.lets.n)++Ag L L.crops.n)++Aa L L.reaches.n)++As L L.farms.n)++AV L i++An (Eh L.rots i))++BF (A2 L i) 0).length O w3):=yb ⟨N,by
            have e:((((((An (Af L.s)++Ao L L.lets.n)++Ag L L.crops.n)++Aa L L.reaches.n)++As L L.farms.n)++AV L i++An (Eh L.rots i))++BF (A2 L i) 0).length=(((((An (Af L.s)++Ao L L.lets.n)++Ag L L.crops.n)++Aa L L.reaches.n)++As L L.farms.n)++AV L i).length+3:=by simp only[ym,BF,List.range_zero,zt,yH];rfl
            rw[e];exact h3⟩
           have a8:=yb (x.o.hd _ _ _ h3.j)
           have c:=a8.o.box
           have B:=a8.o.turns i q
           rw[V.o] at B
           unfold Au.v at B
           clear h3 G a8 K T M H a0
           go_wp2_with fail
           clear c B
           go_loopw [170] (fun jv wq=>∃j:Nat,j<=(A2 L i).n∧jv=iV j∧Hid (∃O,I5 J W0 l Bc ((((((An (Af L.s)++Ao L L.lets.n)++Ag L L.crops.n)++Aa L L.reaches.n)++As L L.farms.n)++AV L i++An (Eh L.rots i))++BF (A2 L i) j).length O wq)) (fun jv _=>(A2 L i).n - (intOf jv).toNat)
           case atStart=>exact ⟨0,yK _,rfl,I⟩
           case round=>
            rename_i ap _
            clear I
            obtain ⟨j,hj,rfl,a6⟩:=hrel
            rename World=>wq
            have ah:=yb (a6.o.elim fun O h=>x.o.hd _ _ _ h.j)
            have c:=ah.o.box
            by_cases aa:j < (A2 L i).n
            ·obtain ⟨b2,o2,ae,a7⟩:=(W.o.turns i q).get aa
             have B:=ah.o.turns i q
             rw[V.o] at B
             unfold Au.v at B
             rw[ae] at B
             have aq:(j:Int) < ((A2 L i).n:Int):=by omega
             have an:(A2 L i).n<=140737488355328:=(W.o.turns i q).1
             have ab:(fun k=>An [(A2 L i).ptr 8 k 2]) j=((#[pV b2 (o2+j*8+2)]:Array Value).toList.map (fun p=>#[p,iV 0])):=by
              simp only[An,Au.ptr,a7,zv,zT]
             have am:Hid (∃post,X=((((((An (Af L.s)++Ao L L.lets.n)++Ag L L.crops.n)++Aa L L.reaches.n)++As L L.farms.n)++AV L i++An (Eh L.rots i))++BF (A2 L i) j)++((#[pV b2 (o2+j*8+2)]:Array Value).toList.map (fun p=>#[p,iV 0])++post)):=yb (by
              obtain ⟨post,C⟩:=Bw (fun i=>An (Eh L.rots i)++BF (A2 L i) (A2 L i).n) q
              obtain ⟨Z,ak⟩:=Bw (fun k=>An [(A2 L i).ptr 8 k 2]) aa
              have D:AV L L.rots.n=AV L i++((An (Eh L.rots i)++BF (A2 L i) (A2 L i).n)++post):=C
              have aj:BF (A2 L i) (A2 L i).n=BF (A2 L i) j++((#[pV b2 (o2+j*8+2)]:Array Value).toList.map (fun p=>#[p,iV 0])++Z):=ak.trans (yF (fun z=>BF (A2 L i) j++(z++Z)) ab)
              refine ⟨Z++(post++((AF L L.rights.n++Bj L L.duties.n))),?_⟩
              rw[HX.o]
              unfold BJ
              rw[D,aj]
              simp only[yL])
             obtain ⟨O,m⟩:=a6.o
             have S:=yb m
             clear m a7 ae ab
             go_wp2_with fail
             refine (Df x.o hn (pre:=(((((An (Af L.s)++Ao L L.lets.n)++Ag L L.crops.n)++Aa L L.reaches.n)++As L L.farms.n)++AV L i++An (Eh L.rots i))++BF (A2 L i) j) S.o 0 #[pV b2 (o2+j*8+2)] 1 rfl _ am.o (by decide) (by simp) _ rfl).mono ?_
             rintro e w5 (⟨r,rfl,hr⟩|⟨U,rfl,C⟩)
             rotate_left
             ·exact ⟨rfl,.inr ⟨U,rfl,C⟩⟩
             have G:=yb hr
             clear hr c B
             rcases G.o with ⟨rfl,N,h3⟩|⟨rfl,N,t⟩
             ·have u:Hid (∃O,I5 J W0 l Bc ((((((An (Af L.s)++Ao L L.lets.n)++Ag L L.crops.n)++Aa L L.reaches.n)++As L L.farms.n)++AV L i++An (Eh L.rots i))++BF (A2 L i) (j+1)).length O w5):=yb ⟨N,by
               have Y:(BF (A2 L i) (j+1)).length=(BF (A2 L i) j).length+1:=by rw[show BF (A2 L i) (j+1)=BF (A2 L i) j++_ from Aj _ j,ym];rfl
               have e:((((((An (Af L.s)++Ao L L.lets.n)++Ag L L.crops.n)++Aa L L.reaches.n)++As L L.farms.n)++AV L i++An (Eh L.rots i))++BF (A2 L i) (j+1)).length=((((((An (Af L.s)++Ao L L.lets.n)++Ag L L.crops.n)++Aa L L.reaches.n)++As L L.farms.n)++AV L i++An (Eh L.rots i))++BF (A2 L i) j).length+1:=by simp only[ym,Y];omega
               rw[e];exact h3⟩
              clear h3 G
              go_wp2
              first
              |exact ⟨⟨j+1,by omega,by go_num,u⟩,by simp[intOf];omega⟩
              |(refine ⟨?_,by simp[intOf];omega⟩;(repeat apply @Exists.intro Value);exact ⟨⟨j+1,by omega,by go_num,u⟩,rfl⟩)
             ·have E:=yb t
              clear t
              go_wp2
              refine zw (zq rfl _ _ _) rfl ?_
              exact .inl ⟨⟨_,rfl⟩,.inr ⟨_,E.o⟩⟩
            ·have ac:j=(A2 L i).n:=by omega
             rw[ac] at a6
             have u:Hid (∃O,I5 J W0 l Bc (((((An (Af L.s)++Ao L L.lets.n)++Ag L L.crops.n)++Aa L L.reaches.n)++As L L.farms.n)++AV L (i+1)).length O wq):=yb (a6.o.elim fun N h3=>⟨N,by
              have Y:(AV L (i+1))=AV L i++(An (Eh L.rots i)++BF (A2 L i) (A2 L i).n):=Aj _ i
              have e:(((((An (Af L.s)++Ao L L.lets.n)++Ag L L.crops.n)++Aa L L.reaches.n)++As L L.farms.n)++AV L (i+1)).length=((((((An (Af L.s)++Ao L L.lets.n)++Ag L L.crops.n)++Aa L L.reaches.n)++As L L.farms.n)++AV L i++An (Eh L.rots i))++BF (A2 L i) (A2 L i).n).length:=by rw[Y];simp only[yL]
              rw[e];exact h3⟩)
             clear a6 ac c
             go_wp2
             first
             |exact ⟨⟨i+1,by omega,by go_num,u⟩,by simp[intOf];omega⟩
             |(refine ⟨?_,by simp[intOf];omega⟩;(repeat apply @Exists.intro Value);exact ⟨⟨i+1,by omega,by go_num,u⟩,rfl⟩)
          ·have A:i=L.rots.n:=by omega
           rw[A] at d
           have I:Hid (∃O,I5 J W0 l Bc ((((((An (Af L.s)++Ao L L.lets.n)++Ag L L.crops.n)++Aa L L.reaches.n)++As L L.farms.n)++AV L L.rots.n)++AF L 0).length O wr):=yb (by
            have:=d.o
            rw[show ((((((An (Af L.s)++Ao L L.lets.n)++Ag L L.crops.n)++Aa L L.reaches.n)++As L L.farms.n)++AV L L.rots.n)++AF L 0).length=(((((An (Af L.s)++Ao L L.lets.n)++Ag L L.crops.n)++Aa L L.reaches.n)++As L L.farms.n)++AV L L.rots.n).length by simp[AF]]
            exact this)
           clear d A
           have a:=f.o.rights
           unfold Au.v at a
           clear f
           go_wp2_with fail
           clear c a
           go_loopw [191] (fun F wr=>∃i:Nat,i<=L.rights.n∧F=iV i∧Hid (∃O,I5 J W0 l Bc ((((((An (Af L.s)++Ao L L.lets.n)++Ag L L.crops.n)++Aa L L.reaches.n)++As L L.farms.n)++AV L L.rots.n)++AF L i).length O wr)) (fun F _=>L.rights.n - (intOf F).toNat)
           case atStart=>exact ⟨0,yK _,rfl,I⟩
           case round=>
            clear I
            obtain ⟨i,hi,rfl,d⟩:=hrel
            have f:=yb (d.o.elim fun O h=>x.o.hd _ _ _ h.j)
            have c:=f.o.box
            by_cases q:i < L.rights.n
            ·obtain ⟨b,o,Q,g⟩:=W.o.rights.get q
             have a:=f.o.rights
             unfold Au.v at a
             rw[Q] at a
             have a2:(i:Int) < (L.rights.n:Int):=by omega
             have R:L.rights.n<=140737488355328:=W.o.rights.1
             have y:(fun i=>An (Kb L.rights i)) i=((#[pV b (o+i*37+7),pV b (o+i*37+13),pV b (o+i*37+19),pV b (o+i*37+25),pV b (o+i*37+31)]:Array Value).toList.map (fun p=>#[p,iV 0])):=by
              simp only[An,Kb,Au.ptr,g,zv,zT]
             have HP:Hid (∃post,X=((((((An (Af L.s)++Ao L L.lets.n)++Ag L L.crops.n)++Aa L L.reaches.n)++As L L.farms.n)++AV L L.rots.n)++AF L i)++((#[pV b (o+i*37+7),pV b (o+i*37+13),pV b (o+i*37+19),pV b (o+i*37+25),pV b (o+i*37+31)]:Array Value).toList.map (fun p=>#[p,iV 0])++post)):=yb (by
              obtain ⟨post,C⟩:=Bw (fun i=>An (Kb L.rights i)) q
              have D:AF L L.rights.n=AF L i++((#[pV b (o+i*37+7),pV b (o+i*37+13),pV b (o+i*37+19),pV b (o+i*37+25),pV b (o+i*37+31)]:Array Value).toList.map (fun p=>#[p,iV 0])++post):=C.trans (yF (fun z=>AF L i++(z++post)) y)
              refine ⟨(post++(Bj L L.duties.n)),?_⟩
              rw[HX.o]
              unfold BJ
              rw[D]
              simp only[yL])
             clear y
             have V:=yb g
             clear g Q
             obtain ⟨O,m⟩:=d.o
             go_wp2_with fail
             have H:=yb (m.below x.o (yg _ _).drew)
             have a0:=yb (m.below x.o (((yg _ _).alloc (yf _) (.cells #[pV b (o+i*37+7),pV b (o+i*37+13),pV b (o+i*37+19),pV b (o+i*37+25),pV b (o+i*37+31)] 150)).drew))
             have M:=yb (x.o.hd _ _ _ H.o.j)
             have T:=yb (x.o.hd _ _ _ a0.o.j)
             have P:=M.o.box
             go_region_held2 (fun w'=>w'.cell? (aV Bs 0)=some (pV L.s 0)) (first|exact M.o.box|exact T.o.box|exact K.o.box)
              (first|(go_at_call 93;refine (Df x.o hn (pre:=(((((An (Af L.s)++Ao L L.lets.n)++Ag L L.crops.n)++Aa L L.reaches.n)++As L L.farms.n)++AV L L.rots.n)++AF L i) H.o 0 _ 5 rfl _ HP.o (by decide) (by simp) _ rfl).mono ?_;rintro e w3 (⟨r,rfl,hr⟩|⟨U,rfl,C⟩);rotate_left;exact ⟨rfl,.inr ⟨U,rfl,C⟩⟩;have K:=yb (hr.elim (fun h=>h.2.elim fun O h=>x.o.hd _ _ _ h.j) (fun h=>h.2.elim fun O h=>x.o.hdx _ _ h));have G:=yb hr;clear hr))
             clear P c a m
             rcases G.o with ⟨rfl,N,h3⟩|⟨rfl,N,t⟩
             ·have u:Hid (∃O,I5 J W0 l Bc ((((((An (Af L.s)++Ao L L.lets.n)++Ag L L.crops.n)++Aa L L.reaches.n)++As L L.farms.n)++AV L L.rots.n)++AF L (i+1)).length O w3):=yb ⟨N,by
               have Y:(AF L (i+1)).length=(AF L i).length+5:=by rw[show AF L (i+1)=AF L i++_ from Aj _ i,ym];rfl
               have e:((((((An (Af L.s)++Ao L L.lets.n)++Ag L L.crops.n)++Aa L L.reaches.n)++As L L.farms.n)++AV L L.rots.n)++AF L (i+1)).length=((((((An (Af L.s)++Ao L L.lets.n)++Ag L L.crops.n)++Aa L L.reaches.n)++As L L.farms.n)++AV L L.rots.n)++AF L i).length+5:=by simp only[ym,Y];omega
               rw[e];exact h3⟩
              clear h3 G
              go_wp2
              first
              |exact ⟨⟨i+1,by omega,by go_num,u⟩,by simp[intOf];omega⟩
              |(refine ⟨?_,by simp[intOf];omega⟩;(repeat apply @Exists.intro Value);exact ⟨⟨i+1,by omega,by go_num,u⟩,rfl⟩)
             ·have E:=yb t
              clear t
              go_wp2
              refine zw (zq rfl _ _ _) rfl ?_
              exact .inl ⟨⟨_,rfl⟩,.inr ⟨_,E.o⟩⟩
            ·have A:i=L.rights.n:=by omega
             rw[A] at d
             have I:Hid (∃O,I5 J W0 l Bc (((((((An (Af L.s)++Ao L L.lets.n)++Ag L L.crops.n)++Aa L L.reaches.n)++As L L.farms.n)++AV L L.rots.n)++AF L L.rights.n)++Bj L 0).length O wr):=yb (by
              have:=d.o
              rw[show (((((((An (Af L.s)++Ao L L.lets.n)++Ag L L.crops.n)++Aa L L.reaches.n)++As L L.farms.n)++AV L L.rots.n)++AF L L.rights.n)++Bj L 0).length=((((((An (Af L.s)++Ao L L.lets.n)++Ag L L.crops.n)++Aa L L.reaches.n)++As L L.farms.n)++AV L L.rots.n)++AF L L.rights.n).length by simp[Bj]]
              exact this)
             clear d A
             have a:=f.o.duties
             unfold Au.v at a
             clear f
             go_wp2_with fail
             clear c a
             go_loopw [225] (fun F wr=>∃i:Nat,i<=L.duties.n∧F=iV i∧Hid (∃O,I5 J W0 l Bc (((((((An (Af L.s)++Ao L L.lets.n)++Ag L L.crops.n)++Aa L L.reaches.n)++As L L.farms.n)++AV L L.rots.n)++AF L L.rights.n)++Bj L i).length O wr)) (fun F _=>L.duties.n - (intOf F).toNat)
             case atStart=>exact ⟨0,yK _,rfl,I⟩
             case round=>
              clear I
              obtain ⟨i,hi,rfl,d⟩:=hrel
              have f:=yb (d.o.elim fun O h=>x.o.hd _ _ _ h.j)
              have c:=f.o.box
              by_cases q:i < L.duties.n
              ·obtain ⟨b,o,Q,g⟩:=W.o.duties.get q
               have a:=f.o.duties
               unfold Au.v at a
               rw[Q] at a
               have a2:(i:Int) < (L.duties.n:Int):=by omega
               have R:L.duties.n<=140737488355328:=W.o.duties.1
               have y:(fun i=>An [L.duties.ptr 11 i 5]) i=((#[pV b (o+i*11+5)]:Array Value).toList.map (fun p=>#[p,iV 0])):=by
                simp only[An,Au.ptr,g,zv,zT]
               have HP:Hid (∃post,X=(((((((An (Af L.s)++Ao L L.lets.n)++Ag L L.crops.n)++Aa L L.reaches.n)++As L L.farms.n)++AV L L.rots.n)++AF L L.rights.n)++Bj L i)++((#[pV b (o+i*11+5)]:Array Value).toList.map (fun p=>#[p,iV 0])++post)):=yb (by
                obtain ⟨post,C⟩:=Bw (fun i=>An [L.duties.ptr 11 i 5]) q
                have D:Bj L L.duties.n=Bj L i++((#[pV b (o+i*11+5)]:Array Value).toList.map (fun p=>#[p,iV 0])++post):=C.trans (yF (fun z=>Bj L i++(z++post)) y)
                refine ⟨post,?_⟩
                rw[HX.o]
                unfold BJ
                rw[D]
                simp only[yL])
               clear y
               have V:=yb g
               clear g Q
               obtain ⟨O,m⟩:=d.o
               have S:=yb m
               clear m
               go_wp2_with fail
               refine (Df x.o hn (pre:=((((((An (Af L.s)++Ao L L.lets.n)++Ag L L.crops.n)++Aa L L.reaches.n)++As L L.farms.n)++AV L L.rots.n)++AF L L.rights.n)++Bj L i) S.o 0 #[pV b (o+i*11+5)] 1 rfl _ HP.o (by decide) (by simp) _ rfl).mono ?_
               rintro e w3 (⟨r,rfl,hr⟩|⟨U,rfl,C⟩)
               rotate_left
               ·exact ⟨rfl,.inr ⟨U,rfl,C⟩⟩
               have G:=yb hr
               clear hr c a
               rcases G.o with ⟨rfl,N,h3⟩|⟨rfl,N,t⟩
               ·have u:Hid (∃O,I5 J W0 l Bc (((((((An (Af L.s)++Ao L L.lets.n)++Ag L L.crops.n)++Aa L L.reaches.n)++As L L.farms.n)++AV L L.rots.n)++AF L L.rights.n)++Bj L (i+1)).length O w3):=yb ⟨N,by
                 have Y:(Bj L (i+1)).length=(Bj L i).length+1:=by rw[show Bj L (i+1)=Bj L i++_ from Aj _ i,ym];rfl
                 have e:(((((((An (Af L.s)++Ao L L.lets.n)++Ag L L.crops.n)++Aa L L.reaches.n)++As L L.farms.n)++AV L L.rots.n)++AF L L.rights.n)++Bj L (i+1)).length=(((((((An (Af L.s)++Ao L L.lets.n)++Ag L L.crops.n)++Aa L L.reaches.n)++As L L.farms.n)++AV L L.rots.n)++AF L L.rights.n)++Bj L i).length+1:=by simp only[ym,Y];omega
                 rw[e];exact h3⟩
                clear h3 G
                go_wp2
                first
                |exact ⟨⟨i+1,by omega,by go_num,u⟩,by simp[intOf];omega⟩
                |(refine ⟨?_,by simp[intOf];omega⟩;(repeat apply @Exists.intro Value);exact ⟨⟨i+1,by omega,by go_num,u⟩,rfl⟩)
               ·have E:=yb t
                clear t
                go_wp2
                refine zw (zq rfl _ _ _) rfl ?_
                exact .inl ⟨⟨_,rfl⟩,.inr ⟨_,E.o⟩⟩
              ·have A:i=L.duties.n:=by omega
               rw[A] at d
               have I:Hid (∃O,J X.length O wr):=yb (d.o.elim fun O h=>⟨O,by
                have:=h.j
                rw[show (((((((An (Af L.s)++Ao L L.lets.n)++Ag L L.crops.n)++Aa L L.reaches.n)++As L L.farms.n)++AV L L.rots.n)++AF L L.rights.n)++Bj L L.duties.n).length=X.length by rw[HX.o];unfold BJ;simp] at this
                exact this⟩)
               clear d A f c
               go_wp2
               go_end0
               exact .inl ⟨⟨_,rfl⟩,.inl I.o⟩
end Go.Proofs.YtjofgpfocadomaaGreatDoor
