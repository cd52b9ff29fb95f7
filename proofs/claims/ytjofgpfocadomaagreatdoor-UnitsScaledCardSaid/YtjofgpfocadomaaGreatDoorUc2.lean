/- The iterator over a source's expressions: the walk. -/
import Derived.Test.YtjofgpfocadomaaGreatDoorUc0
import Derived.Deep.RegionHeld2
import Derived.StillTailTactics
set_option maxRecDepth 100000
set_option maxHeartbeats 16000000
set_option linter.unusedSimpArgs false
namespace Go.Proofs.YtjofgpfocadomaaGreatDoor
open Go.RowKit
def Wp(J:Nat->NP->World->Prop)(Jx:NP->World->Prop)(Jp:List PanicEntry->NP->World->Prop)(k:Nat)(e:Ending)(W':World):Prop:=
 ((∃v,e=.returned v)∧((∃O,J k O W')∨∃O,Jx O W'))∨∃a,e=.panicked a∧∃O,Jp a O W'
theorem Ik.start{n l:Nat}{P:Program}{xs:List (Array Value)}{Hd:World->Prop}{J:Nat->NP->World->Prop}{Jx:NP->World->Prop}{Jp:List PanicEntry->NP->World->Prop}{W0:World}(a:Xo n l P xs Hd J Jx Jp W0)(h0:J 0 (fun _=>False) W0)(t:TypeId):
  Ik J W0 l W0.heap.size 0 (fun b=>False∨(W0.heap.size<=b∧b < (W0.alloc (.cells #[.func (.yield l) #[] #[]] t)).heap.size)) (W0.alloc (.cells #[.func (.yield l) #[] #[]] t)):=
 ⟨CL a.stays h0 ((yg _ _).alloc (yf _) _),.inr ⟨yf _,by simp⟩,by
  have:(W0.alloc (.cells #[.func (.yield l) #[] #[]] t)).heap[W0.heap.size]?=some (.cells #[.func (.yield l) #[] #[]] t (0,0)):=World.alloc_heap_new _ _
  simp only[World.cell?,this];simp,by simp,fun b hb=>by rcases hb with hb|hb;exact hb.elim;exact hb⟩
theorem Q4(n:Nat)(hn:1<=n)(l Bs:Nat)(L:Bt)(hL:L.Ok)(J:Nat->NP->World->Prop)(Jx:NP->World->Prop)(Jp:List PanicEntry->NP->World->Prop)(W0:World)
 (hc:Xo (n - 1) l Tryz.prog (BK L) (IS L Bs) J Jx Jp W0)(h0:J 0 (fun _=>False) W0):
  Calls Tryz.prog 92 #[.func (.yield l) #[] #[],.pointer (some ⟨Bs,0,none⟩)] W0 (Wp J Jx Jp (BK L).length):=by
 have an:∀(fn:Fn) (first cap:Array Value) (w:World),(Instr.makeFunc fn first cap).run Tryz.prog w=.ok (.func fn first cap) w:=fun _ _ _ _=>rfl
 have x:=yb hc
 have W:=yb hL
 have HI:=yb (Ik.start hc h0 149)
 obtain ⟨X,hX⟩:∃X,X=BK L:=⟨_,rfl⟩
 have HX:=yb hX
 rw[<-hX] at x ⊢
 clear hc hL h0 hX
 go_enter Tryz.func92,Tryz.ntmps92
 go_wp2_with fail
 generalize hw:W0.alloc (.cells #[.func (.yield l) #[] #[]] 149)=w1 at HI ⊢
 clear hw
 generalize W0.heap.size=Bc at HI ⊢
 have HH:=yb (x.o.hd _ _ _ HI.o.j)
 have F:=yb (HI.o.below x.o (yg _ _).drew)
 have K:=yb (x.o.hd _ _ _ F.o.j)
 have S:=yb (x.o.hd _ _ _ (HI.o.below x.o (((yg _ _).alloc (yf _) (.cells #[pV L.s 1,pV L.s 7,pV L.s 13] 150)).drew)).j)
 have ab:Hid (∃post,X=[]++((#[pV L.s 1,pV L.s 7,pV L.s 13]:Array Value).toList.map (fun p=>#[p,iV 0])++post)):=yb ⟨_,by rw[HX.o];rfl⟩
 go_region_held2 (fun w'=>w'.cell? (aV Bs 0)=some (pV L.s 0)) (first|exact K.o.box|exact S.o.box|exact M.o.box)
  (first|(go_at_call 93;refine (Dp x.o hn (pre:=[]) F.o 0 _ 3 rfl _ ab.o (by decide) (by simp) _ rfl).mono ?_;rintro e w2 (⟨r,rfl,hr⟩|⟨V,rfl,C⟩);rotate_left;exact ⟨rfl,.inr ⟨V,rfl,C⟩⟩;have M:=yb (hr.elim (fun h=>h.2.elim fun O h=>x.o.hd _ _ _ h.j) (fun h=>h.2.elim fun O h=>x.o.hdx _ _ h));have G:=yb hr;clear hr))
 rcases G.o with ⟨rfl,O2,aa⟩|⟨rfl,O2,ae⟩
 case inr=>
  have ak:=yb ae
  clear ae G M
  go_wp2
  refine zw (zs rfl _ _ _) rfl ?_
  exact .inl ⟨⟨_,rfl⟩,.inr ⟨_,ak.o⟩⟩
 have I:Hid (∃O,Ik J W0 l Bc (An (Ai L.s)++Ao L 0).length O w2):=yb ⟨O2,aa⟩
 clear aa G F K S ab HI HH
 have c:=M.o.box
 have a:=M.o.lets
 unfold Aw.v at a
 go_wp2_with fail
 clear M c a
 go_loopw [34] (fun H wr=>∃i:Nat,i<=L.lets.n∧H=iV i∧Hid (∃O,Ik J W0 l Bc (An (Ai L.s)++Ao L i).length O wr)) (fun H _=>L.lets.n - (intOf H).toNat)
 case atStart=>exact ⟨0,yI _,rfl,I⟩
 case round=>
  clear I
  obtain ⟨i,hi,rfl,d⟩:=hrel
  have f:=yb (d.o.elim fun O h=>x.o.hd _ _ _ h.j)
  have c:=f.o.box
  by_cases q:i < L.lets.n
  ·obtain ⟨b,o,Q,g⟩:=W.o.lets.get q
   have a:=f.o.lets
   unfold Aw.v at a
   rw[Q] at a
   have a0:(i:Int) < (L.lets.n:Int):=by omega
   have R:L.lets.n<=140737488355328:=W.o.lets.1
   have A:(fun i=> [#[L.lets.ptr 7 i 1,iV (1+(i:Int))]]) i=((#[pV b (o+i*7+1)]:Array Value).toList.map (fun p=>#[p,iV (1+(i:Int))])):=by
    simp only[Aw.ptr,g,zu,zN]
   have HP:Hid (∃post,X=(An (Ai L.s)++Ao L i)++((#[pV b (o+i*7+1)]:Array Value).toList.map (fun p=>#[p,iV (1+(i:Int))])++post)):=yb (by
    obtain ⟨post,C⟩:=BC (fun i=> [#[L.lets.ptr 7 i 1,iV (1+(i:Int))]]) q
    have D:Ao L L.lets.n=Ao L i++((#[pV b (o+i*7+1)]:Array Value).toList.map (fun p=>#[p,iV (1+(i:Int))])++post):=C.trans (yD (fun z=>Ao L i++(z++post)) A)
    refine ⟨(post++((Aj L L.crops.n++(Aa L L.reaches.n++(Aq L L.farms.n++(AV L L.rots.n++(AJ L L.rights.n++Bm L L.duties.n))))))),?_⟩
    rw[HX.o]
    unfold BK
    rw[D]
    simp only[yG])
   clear A
   have U:=yb g
   clear g Q
   obtain ⟨O,m⟩:=d.o
   have T:=yb m
   clear m
   go_wp2_with fail
   refine (Dp x.o hn (pre:=An (Ai L.s)++Ao L i) T.o (1+(i:Int)) #[pV b (o+i*7+1)] 1 rfl _ HP.o (by decide) (by simp) _ rfl).mono ?_
   rintro e w3 (⟨r,rfl,hr⟩|⟨V,rfl,C⟩)
   rotate_left
   ·exact ⟨rfl,.inr ⟨V,rfl,C⟩⟩
   have G:=yb hr
   clear hr c a
   rcases G.o with ⟨rfl,N,h3⟩|⟨rfl,N,u⟩
   ·have t:Hid (∃O,Ik J W0 l Bc (An (Ai L.s)++Ao L (i+1)).length O w3):=yb ⟨N,by
     have Y:(Ao L (i+1)).length=(Ao L i).length+1:=by rw[show Ao L (i+1)=Ao L i++_ from Ak _ i,yn];rfl
     have e:(An (Ai L.s)++Ao L (i+1)).length=(An (Ai L.s)++Ao L i).length+1:=by simp only[yn,Y];omega
     rw[e];exact h3⟩
    clear h3 G
    go_wp2
    first
    |exact ⟨⟨i+1,by omega,by go_num,t⟩,by simp[intOf];omega⟩
    |(refine ⟨?_,by simp[intOf];omega⟩;(repeat apply @Exists.intro Value);exact ⟨⟨i+1,by omega,by go_num,t⟩,rfl⟩)
   ·have E:=yb u
    clear u
    go_wp2
    refine zw (zs rfl _ _ _) rfl ?_
    exact .inl ⟨⟨_,rfl⟩,.inr ⟨_,E.o⟩⟩
  ·have y:i=L.lets.n:=by omega
   rw[y] at d
   have I:Hid (∃O,Ik J W0 l Bc ((An (Ai L.s)++Ao L L.lets.n)++Aj L 0).length O wr):=yb (by
    have:=d.o
    rw[show ((An (Ai L.s)++Ao L L.lets.n)++Aj L 0).length=(An (Ai L.s)++Ao L L.lets.n).length by simp[Aj]]
    exact this)
   clear d y
   have a:=f.o.crops
   unfold Aw.v at a
   clear f
   go_wp2_with fail
   clear c a
   go_loopw [56] (fun H wr=>∃i:Nat,i<=L.crops.n∧H=iV i∧Hid (∃O,Ik J W0 l Bc ((An (Ai L.s)++Ao L L.lets.n)++Aj L i).length O wr)) (fun H _=>L.crops.n - (intOf H).toNat)
   case atStart=>exact ⟨0,yI _,rfl,I⟩
   case round=>
    clear I
    obtain ⟨i,hi,rfl,d⟩:=hrel
    have f:=yb (d.o.elim fun O h=>x.o.hd _ _ _ h.j)
    have c:=f.o.box
    by_cases q:i < L.crops.n
    ·obtain ⟨b,o,Q,g⟩:=W.o.crops.get q
     have a:=f.o.crops
     unfold Aw.v at a
     rw[Q] at a
     have a0:(i:Int) < (L.crops.n:Int):=by omega
     have R:L.crops.n<=140737488355328:=W.o.crops.1
     have A:(fun i=>An [L.crops.ptr 7 i 1]) i=((#[pV b (o+i*7+1)]:Array Value).toList.map (fun p=>#[p,iV 0])):=by
      simp only[An,Aw.ptr,g,zu,zN]
     have HP:Hid (∃post,X=((An (Ai L.s)++Ao L L.lets.n)++Aj L i)++((#[pV b (o+i*7+1)]:Array Value).toList.map (fun p=>#[p,iV 0])++post)):=yb (by
      obtain ⟨post,C⟩:=BC (fun i=>An [L.crops.ptr 7 i 1]) q
      have D:Aj L L.crops.n=Aj L i++((#[pV b (o+i*7+1)]:Array Value).toList.map (fun p=>#[p,iV 0])++post):=C.trans (yD (fun z=>Aj L i++(z++post)) A)
      refine ⟨(post++((Aa L L.reaches.n++(Aq L L.farms.n++(AV L L.rots.n++(AJ L L.rights.n++Bm L L.duties.n)))))),?_⟩
      rw[HX.o]
      unfold BK
      rw[D]
      simp only[yG])
     clear A
     have U:=yb g
     clear g Q
     obtain ⟨O,m⟩:=d.o
     have T:=yb m
     clear m
     go_wp2_with fail
     refine (Dp x.o hn (pre:=(An (Ai L.s)++Ao L L.lets.n)++Aj L i) T.o 0 #[pV b (o+i*7+1)] 1 rfl _ HP.o (by decide) (by simp) _ rfl).mono ?_
     rintro e w3 (⟨r,rfl,hr⟩|⟨V,rfl,C⟩)
     rotate_left
     ·exact ⟨rfl,.inr ⟨V,rfl,C⟩⟩
     have G:=yb hr
     clear hr c a
     rcases G.o with ⟨rfl,N,h3⟩|⟨rfl,N,u⟩
     ·have t:Hid (∃O,Ik J W0 l Bc ((An (Ai L.s)++Ao L L.lets.n)++Aj L (i+1)).length O w3):=yb ⟨N,by
       have Y:(Aj L (i+1)).length=(Aj L i).length+1:=by rw[show Aj L (i+1)=Aj L i++_ from Ak _ i,yn];rfl
       have e:((An (Ai L.s)++Ao L L.lets.n)++Aj L (i+1)).length=((An (Ai L.s)++Ao L L.lets.n)++Aj L i).length+1:=by simp only[yn,Y];omega
       rw[e];exact h3⟩
      clear h3 G
      go_wp2
      first
      |exact ⟨⟨i+1,by omega,by go_num,t⟩,by simp[intOf];omega⟩
      |(refine ⟨?_,by simp[intOf];omega⟩;(repeat apply @Exists.intro Value);exact ⟨⟨i+1,by omega,by go_num,t⟩,rfl⟩)
     ·have E:=yb u
      clear u
      go_wp2
      refine zw (zs rfl _ _ _) rfl ?_
      exact .inl ⟨⟨_,rfl⟩,.inr ⟨_,E.o⟩⟩
    ·have y:i=L.crops.n:=by omega
     rw[y] at d
     have I:Hid (∃O,Ik J W0 l Bc (((An (Ai L.s)++Ao L L.lets.n)++Aj L L.crops.n)++Aa L 0).length O wr):=yb (by
      have:=d.o
      rw[show (((An (Ai L.s)++Ao L L.lets.n)++Aj L L.crops.n)++Aa L 0).length=((An (Ai L.s)++Ao L L.lets.n)++Aj L L.crops.n).length by simp[Aa]]
      exact this)
     clear d y
     have a:=f.o.reaches
     unfold Aw.v at a
     clear f
     go_wp2_with fail
     clear c a
     go_loopw [76] (fun H wr=>∃i:Nat,i<=L.reaches.n∧H=iV i∧Hid (∃O,Ik J W0 l Bc (((An (Ai L.s)++Ao L L.lets.n)++Aj L L.crops.n)++Aa L i).length O wr)) (fun H _=>L.reaches.n - (intOf H).toNat)
     case atStart=>exact ⟨0,yI _,rfl,I⟩
     case round=>
      clear I
      obtain ⟨i,hi,rfl,d⟩:=hrel
      have f:=yb (d.o.elim fun O h=>x.o.hd _ _ _ h.j)
      have c:=f.o.box
      by_cases q:i < L.reaches.n
      ·obtain ⟨b,o,Q,g⟩:=W.o.reaches.get q
       have a:=f.o.reaches
       unfold Aw.v at a
       rw[Q] at a
       have a0:(i:Int) < (L.reaches.n:Int):=by omega
       have R:L.reaches.n<=140737488355328:=W.o.reaches.1
       have A:(fun i=>An (Kw L.reaches i)) i=((#[pV b (o+i*51+3),pV b (o+i*51+9),pV b (o+i*51+15),pV b (o+i*51+21),pV b (o+i*51+27),pV b (o+i*51+33),pV b (o+i*51+39),pV b (o+i*51+45)]:Array Value).toList.map (fun p=>#[p,iV 0])):=by
        simp only[An,Kw,Aw.ptr,g,zu,zN]
       have HP:Hid (∃post,X=(((An (Ai L.s)++Ao L L.lets.n)++Aj L L.crops.n)++Aa L i)++((#[pV b (o+i*51+3),pV b (o+i*51+9),pV b (o+i*51+15),pV b (o+i*51+21),pV b (o+i*51+27),pV b (o+i*51+33),pV b (o+i*51+39),pV b (o+i*51+45)]:Array Value).toList.map (fun p=>#[p,iV 0])++post)):=yb (by
        obtain ⟨post,C⟩:=BC (fun i=>An (Kw L.reaches i)) q
        have D:Aa L L.reaches.n=Aa L i++((#[pV b (o+i*51+3),pV b (o+i*51+9),pV b (o+i*51+15),pV b (o+i*51+21),pV b (o+i*51+27),pV b (o+i*51+33),pV b (o+i*51+39),pV b (o+i*51+45)]:Array Value).toList.map (fun p=>#[p,iV 0])++post):=C.trans (yD (fun z=>Aa L i++(z++post)) A)
        refine ⟨(post++((Aq L L.farms.n++(AV L L.rots.n++(AJ L L.rights.n++Bm L L.duties.n))))),?_⟩
        rw[HX.o]
        unfold BK
        rw[D]
        simp only[yG])
       clear A
       have U:=yb g
       clear g Q
       obtain ⟨O,m⟩:=d.o
       go_wp2_with fail
       have F:=yb (m.below x.o (yg _ _).drew)
       have a2:=yb (m.below x.o (((yg _ _).alloc (yf _) (.cells #[pV b (o+i*51+3),pV b (o+i*51+9),pV b (o+i*51+15),pV b (o+i*51+21),pV b (o+i*51+27),pV b (o+i*51+33),pV b (o+i*51+39),pV b (o+i*51+45)] 150)).drew))
       have K:=yb (x.o.hd _ _ _ F.o.j)
       have S:=yb (x.o.hd _ _ _ a2.o.j)
       have P:=K.o.box
       go_region_held2 (fun w'=>w'.cell? (aV Bs 0)=some (pV L.s 0)) (first|exact K.o.box|exact S.o.box|exact M.o.box)
        (first|(go_at_call 93;refine (Dp x.o hn (pre:=((An (Ai L.s)++Ao L L.lets.n)++Aj L L.crops.n)++Aa L i) F.o 0 _ 8 rfl _ HP.o (by decide) (by simp) _ rfl).mono ?_;rintro e w3 (⟨r,rfl,hr⟩|⟨V,rfl,C⟩);rotate_left;exact ⟨rfl,.inr ⟨V,rfl,C⟩⟩;have M:=yb (hr.elim (fun h=>h.2.elim fun O h=>x.o.hd _ _ _ h.j) (fun h=>h.2.elim fun O h=>x.o.hdx _ _ h));have G:=yb hr;clear hr))
       clear P c a m
       rcases G.o with ⟨rfl,N,h3⟩|⟨rfl,N,u⟩
       ·have t:Hid (∃O,Ik J W0 l Bc (((An (Ai L.s)++Ao L L.lets.n)++Aj L L.crops.n)++Aa L (i+1)).length O w3):=yb ⟨N,by
         have Y:(Aa L (i+1)).length=(Aa L i).length+8:=by rw[show Aa L (i+1)=Aa L i++_ from Ak _ i,yn];rfl
         have e:(((An (Ai L.s)++Ao L L.lets.n)++Aj L L.crops.n)++Aa L (i+1)).length=(((An (Ai L.s)++Ao L L.lets.n)++Aj L L.crops.n)++Aa L i).length+8:=by simp only[yn,Y];omega
         rw[e];exact h3⟩
        clear h3 G
        go_wp2
        first
        |exact ⟨⟨i+1,by omega,by go_num,t⟩,by simp[intOf];omega⟩
        |(refine ⟨?_,by simp[intOf];omega⟩;(repeat apply @Exists.intro Value);exact ⟨⟨i+1,by omega,by go_num,t⟩,rfl⟩)
       ·have E:=yb u
        clear u
        go_wp2
        refine zw (zs rfl _ _ _) rfl ?_
        exact .inl ⟨⟨_,rfl⟩,.inr ⟨_,E.o⟩⟩
      ·have y:i=L.reaches.n:=by omega
       rw[y] at d
       have I:Hid (∃O,Ik J W0 l Bc ((((An (Ai L.s)++Ao L L.lets.n)++Aj L L.crops.n)++Aa L L.reaches.n)++Aq L 0).length O wr):=yb (by
        have:=d.o
        rw[show ((((An (Ai L.s)++Ao L L.lets.n)++Aj L L.crops.n)++Aa L L.reaches.n)++Aq L 0).length=(((An (Ai L.s)++Ao L L.lets.n)++Aj L L.crops.n)++Aa L L.reaches.n).length by simp[Aq]]
        exact this)
       clear d y
       have a:=f.o.farms
       unfold Aw.v at a
       clear f
       go_wp2_with fail
       clear c a
       go_loopw [123] (fun H wr=>∃i:Nat,i<=L.farms.n∧H=iV i∧Hid (∃O,Ik J W0 l Bc ((((An (Ai L.s)++Ao L L.lets.n)++Aj L L.crops.n)++Aa L L.reaches.n)++Aq L i).length O wr)) (fun H _=>L.farms.n - (intOf H).toNat)
       case atStart=>exact ⟨0,yI _,rfl,I⟩
       case round=>
        clear I
        obtain ⟨i,hi,rfl,d⟩:=hrel
        have f:=yb (d.o.elim fun O h=>x.o.hd _ _ _ h.j)
        have c:=f.o.box
        by_cases q:i < L.farms.n
        ·obtain ⟨b,o,Q,g⟩:=W.o.farms.get q
         have a:=f.o.farms
         unfold Aw.v at a
         rw[Q] at a
         have a0:(i:Int) < (L.farms.n:Int):=by omega
         have R:L.farms.n<=140737488355328:=W.o.farms.1
         have A:(fun i=>An [L.farms.ptr 12 i 4]) i=((#[pV b (o+i*12+4)]:Array Value).toList.map (fun p=>#[p,iV 0])):=by
          simp only[An,Aw.ptr,g,zu,zN]
         have HP:Hid (∃post,X=((((An (Ai L.s)++Ao L L.lets.n)++Aj L L.crops.n)++Aa L L.reaches.n)++Aq L i)++((#[pV b (o+i*12+4)]:Array Value).toList.map (fun p=>#[p,iV 0])++post)):=yb (by
          obtain ⟨post,C⟩:=BC (fun i=>An [L.farms.ptr 12 i 4]) q
          have D:Aq L L.farms.n=Aq L i++((#[pV b (o+i*12+4)]:Array Value).toList.map (fun p=>#[p,iV 0])++post):=C.trans (yD (fun z=>Aq L i++(z++post)) A)
          refine ⟨(post++((AV L L.rots.n++(AJ L L.rights.n++Bm L L.duties.n)))),?_⟩
          rw[HX.o]
          unfold BK
          rw[D]
          simp only[yG])
         clear A
         have U:=yb g
         clear g Q
         obtain ⟨O,m⟩:=d.o
         have T:=yb m
         clear m
         go_wp2_with fail
         refine (Dp x.o hn (pre:=(((An (Ai L.s)++Ao L L.lets.n)++Aj L L.crops.n)++Aa L L.reaches.n)++Aq L i) T.o 0 #[pV b (o+i*12+4)] 1 rfl _ HP.o (by decide) (by simp) _ rfl).mono ?_
         rintro e w3 (⟨r,rfl,hr⟩|⟨V,rfl,C⟩)
         rotate_left
         ·exact ⟨rfl,.inr ⟨V,rfl,C⟩⟩
         have G:=yb hr
         clear hr c a
         rcases G.o with ⟨rfl,N,h3⟩|⟨rfl,N,u⟩
         ·have t:Hid (∃O,Ik J W0 l Bc ((((An (Ai L.s)++Ao L L.lets.n)++Aj L L.crops.n)++Aa L L.reaches.n)++Aq L (i+1)).length O w3):=yb ⟨N,by
           have Y:(Aq L (i+1)).length=(Aq L i).length+1:=by rw[show Aq L (i+1)=Aq L i++_ from Ak _ i,yn];rfl
           have e:((((An (Ai L.s)++Ao L L.lets.n)++Aj L L.crops.n)++Aa L L.reaches.n)++Aq L (i+1)).length=((((An (Ai L.s)++Ao L L.lets.n)++Aj L L.crops.n)++Aa L L.reaches.n)++Aq L i).length+1:=by simp only[yn,Y];omega
           rw[e];exact h3⟩
          clear h3 G
          go_wp2
          first
          |exact ⟨⟨i+1,by omega,by go_num,t⟩,by simp[intOf];omega⟩
          |(refine ⟨?_,by simp[intOf];omega⟩;(repeat apply @Exists.intro Value);exact ⟨⟨i+1,by omega,by go_num,t⟩,rfl⟩)
         ·have E:=yb u
          clear u
          go_wp2
          refine zw (zs rfl _ _ _) rfl ?_
          exact .inl ⟨⟨_,rfl⟩,.inr ⟨_,E.o⟩⟩
        ·have y:i=L.farms.n:=by omega
         rw[y] at d
         have I:Hid (∃O,Ik J W0 l Bc (((((An (Ai L.s)++Ao L L.lets.n)++Aj L L.crops.n)++Aa L L.reaches.n)++Aq L L.farms.n)++AV L 0).length O wr):=yb (by
          have:=d.o
          rw[show (((((An (Ai L.s)++Ao L L.lets.n)++Aj L L.crops.n)++Aa L L.reaches.n)++Aq L L.farms.n)++AV L 0).length=((((An (Ai L.s)++Ao L L.lets.n)++Aj L L.crops.n)++Aa L L.reaches.n)++Aq L L.farms.n).length by simp[AV]]
          exact this)
         clear d y
         have a:=f.o.rots
         unfold Aw.v at a
         clear f
         go_wp2_with fail
         clear c a
         go_loopw [143] (fun H wr=>∃i:Nat,i<=L.rots.n∧H=iV i∧Hid (∃O,Ik J W0 l Bc (((((An (Ai L.s)++Ao L L.lets.n)++Aj L L.crops.n)++Aa L L.reaches.n)++Aq L L.farms.n)++AV L i).length O wr)) (fun H _=>L.rots.n - (intOf H).toNat)
         case atStart=>exact ⟨0,yI _,rfl,I⟩
         case round=>
          clear I
          obtain ⟨i,hi,rfl,d⟩:=hrel
          have f:=yb (d.o.elim fun O h=>x.o.hd _ _ _ h.j)
          have c:=f.o.box
          by_cases q:i < L.rots.n
          ·obtain ⟨b,o,Q,g⟩:=W.o.rots.get q
           have a:=f.o.rots
           unfold Aw.v at a
           rw[Q] at a
           have a0:(i:Int) < (L.rots.n:Int):=by omega
           have R:L.rots.n<=140737488355328:=W.o.rots.1
           have A:(fun i=>An (Ee L.rots i)++BI (A2 L i) (A2 L i).n) i=((#[pV b (o+i*23+4),pV b (o+i*23+10),pV b (o+i*23+16)]:Array Value).toList.map (fun p=>#[p,iV 0])++BI (A2 L i) (A2 L i).n):=by
            simp only[An,Ee,Aw.ptr,g,zu,zN]
           have HP:Hid (∃post,X=(((((An (Ai L.s)++Ao L L.lets.n)++Aj L L.crops.n)++Aa L L.reaches.n)++Aq L L.farms.n)++AV L i)++((#[pV b (o+i*23+4),pV b (o+i*23+10),pV b (o+i*23+16)]:Array Value).toList.map (fun p=>#[p,iV 0])++post)):=yb (by
            obtain ⟨post,C⟩:=BC (fun i=>An (Ee L.rots i)++BI (A2 L i) (A2 L i).n) q
            have D:AV L L.rots.n=AV L i++((#[pV b (o+i*23+4),pV b (o+i*23+10),pV b (o+i*23+16)]:Array Value).toList.map (fun p=>#[p,iV 0])++BI (A2 L i) (A2 L i).n++post):=C.trans (yD (fun z=>AV L i++(z++post)) A)
            refine ⟨BI (A2 L i) (A2 L i).n++(post++((AJ L L.rights.n++Bm L L.duties.n))),?_⟩
            rw[HX.o]
            unfold BK
            rw[D]
            simp only[yG])
           clear A
           have U:=yb g
           clear g Q
           obtain ⟨O,m⟩:=d.o
           go_wp2_with fail
           have F:=yb (m.below x.o (yg _ _).drew)
           have a2:=yb (m.below x.o (((yg _ _).alloc (yf _) (.cells #[pV b (o+i*23+4),pV b (o+i*23+10),pV b (o+i*23+16)] 150)).drew))
           have K:=yb (x.o.hd _ _ _ F.o.j)
           have S:=yb (x.o.hd _ _ _ a2.o.j)
           have P:=K.o.box
           go_region_held2 (fun w'=>w'.cell? (aV Bs 0)=some (pV L.s 0)) (first|exact K.o.box|exact S.o.box|exact M.o.box)
            (first|(go_at_call 93;refine (Dp x.o hn (pre:=((((An (Ai L.s)++Ao L L.lets.n)++Aj L L.crops.n)++Aa L L.reaches.n)++Aq L L.farms.n)++AV L i) F.o 0 _ 3 rfl _ HP.o (by decide) (by simp) _ rfl).mono ?_;rintro e w3 (⟨r,rfl,hr⟩|⟨V,rfl,C⟩);rotate_left;exact ⟨rfl,.inr ⟨V,rfl,C⟩⟩;have M:=yb (hr.elim (fun h=>h.2.elim fun O h=>x.o.hd _ _ _ h.j) (fun h=>h.2.elim fun O h=>x.o.hdx _ _ h));have G:=yb hr;clear hr))
           clear P c a m
           rcases G.o with ⟨rfl,N,h3⟩|⟨rfl,N,u⟩
           case inr=>
            have E:=yb u
            clear u
            go_wp2
            refine zw (zs rfl _ _ _) rfl ?_
            exact .inl ⟨⟨_,rfl⟩,.inr ⟨_,E.o⟩⟩
           have I:Hid (∃O,Ik J W0 l Bc ((((((An (Ai L.s)++Ao L L.lets.n)++Aj L L.crops.n)++Aa L L.reaches.n)++Aq L L.farms.n)++AV L i++An (Ee L.rots i))++BI (A2 L i) 0).length O w3):=yb ⟨N,by
            have e:((((((An (Ai L.s)++Ao L L.lets.n)++Aj L L.crops.n)++Aa L L.reaches.n)++Aq L L.farms.n)++AV L i++An (Ee L.rots i))++BI (A2 L i) 0).length=(((((An (Ai L.s)++Ao L L.lets.n)++Aj L L.crops.n)++Aa L L.reaches.n)++Aq L L.farms.n)++AV L i).length+3:=by simp only[yn,BI,List.range_zero,zx,yH];rfl
            rw[e];exact h3⟩
           have a8:=yb (x.o.hd _ _ _ h3.j)
           have c:=a8.o.box
           have B:=a8.o.turns i q
           rw[U.o] at B
           unfold Aw.v at B
           clear h3 G a8 M S K F a2
           go_wp2_with fail
           clear c B
           go_loopw [170] (fun jv wq=>∃j:Nat,j<=(A2 L i).n∧jv=iV j∧Hid (∃O,Ik J W0 l Bc ((((((An (Ai L.s)++Ao L L.lets.n)++Aj L L.crops.n)++Aa L L.reaches.n)++Aq L L.farms.n)++AV L i++An (Ee L.rots i))++BI (A2 L i) j).length O wq)) (fun jv _=>(A2 L i).n - (intOf jv).toNat)
           case atStart=>exact ⟨0,yI _,rfl,I⟩
           case round=>
            rename_i ao _
            clear I
            obtain ⟨j,hj,rfl,a6⟩:=hrel
            rename World=>wq
            have af:=yb (a6.o.elim fun O h=>x.o.hd _ _ _ h.j)
            have c:=af.o.box
            by_cases ah:j < (A2 L i).n
            ·obtain ⟨b2,o2,ag,a7⟩:=(W.o.turns i q).get ah
             have B:=af.o.turns i q
             rw[U.o] at B
             unfold Aw.v at B
             rw[ag] at B
             have ap:(j:Int) < ((A2 L i).n:Int):=by omega
             have am:(A2 L i).n<=140737488355328:=(W.o.turns i q).1
             have ac:(fun k=>An [(A2 L i).ptr 8 k 2]) j=((#[pV b2 (o2+j*8+2)]:Array Value).toList.map (fun p=>#[p,iV 0])):=by
              simp only[An,Aw.ptr,a7,zu,zN]
             have al:Hid (∃post,X=((((((An (Ai L.s)++Ao L L.lets.n)++Aj L L.crops.n)++Aa L L.reaches.n)++Aq L L.farms.n)++AV L i++An (Ee L.rots i))++BI (A2 L i) j)++((#[pV b2 (o2+j*8+2)]:Array Value).toList.map (fun p=>#[p,iV 0])++post)):=yb (by
              obtain ⟨post,C⟩:=BC (fun i=>An (Ee L.rots i)++BI (A2 L i) (A2 L i).n) q
              obtain ⟨Z,aj⟩:=BC (fun k=>An [(A2 L i).ptr 8 k 2]) ah
              have D:AV L L.rots.n=AV L i++((An (Ee L.rots i)++BI (A2 L i) (A2 L i).n)++post):=C
              have ai:BI (A2 L i) (A2 L i).n=BI (A2 L i) j++((#[pV b2 (o2+j*8+2)]:Array Value).toList.map (fun p=>#[p,iV 0])++Z):=aj.trans (yD (fun z=>BI (A2 L i) j++(z++Z)) ac)
              refine ⟨Z++(post++((AJ L L.rights.n++Bm L L.duties.n))),?_⟩
              rw[HX.o]
              unfold BK
              rw[D,ai]
              simp only[yG])
             obtain ⟨O,m⟩:=a6.o
             have T:=yb m
             clear m a7 ag ac
             go_wp2_with fail
             refine (Dp x.o hn (pre:=(((((An (Ai L.s)++Ao L L.lets.n)++Aj L L.crops.n)++Aa L L.reaches.n)++Aq L L.farms.n)++AV L i++An (Ee L.rots i))++BI (A2 L i) j) T.o 0 #[pV b2 (o2+j*8+2)] 1 rfl _ al.o (by decide) (by simp) _ rfl).mono ?_
             rintro e w5 (⟨r,rfl,hr⟩|⟨V,rfl,C⟩)
             rotate_left
             ·exact ⟨rfl,.inr ⟨V,rfl,C⟩⟩
             have G:=yb hr
             clear hr c B
             rcases G.o with ⟨rfl,N,h3⟩|⟨rfl,N,u⟩
             ·have t:Hid (∃O,Ik J W0 l Bc ((((((An (Ai L.s)++Ao L L.lets.n)++Aj L L.crops.n)++Aa L L.reaches.n)++Aq L L.farms.n)++AV L i++An (Ee L.rots i))++BI (A2 L i) (j+1)).length O w5):=yb ⟨N,by
               have Y:(BI (A2 L i) (j+1)).length=(BI (A2 L i) j).length+1:=by rw[show BI (A2 L i) (j+1)=BI (A2 L i) j++_ from Ak _ j,yn];rfl
               have e:((((((An (Ai L.s)++Ao L L.lets.n)++Aj L L.crops.n)++Aa L L.reaches.n)++Aq L L.farms.n)++AV L i++An (Ee L.rots i))++BI (A2 L i) (j+1)).length=((((((An (Ai L.s)++Ao L L.lets.n)++Aj L L.crops.n)++Aa L L.reaches.n)++Aq L L.farms.n)++AV L i++An (Ee L.rots i))++BI (A2 L i) j).length+1:=by simp only[yn,Y];omega
               rw[e];exact h3⟩
              clear h3 G
              go_wp2
              first
              |exact ⟨⟨j+1,by omega,by go_num,t⟩,by simp[intOf];omega⟩
              |(refine ⟨?_,by simp[intOf];omega⟩;(repeat apply @Exists.intro Value);exact ⟨⟨j+1,by omega,by go_num,t⟩,rfl⟩)
             ·have E:=yb u
              clear u
              go_wp2
              refine zw (zs rfl _ _ _) rfl ?_
              exact .inl ⟨⟨_,rfl⟩,.inr ⟨_,E.o⟩⟩
            ·have ad:j=(A2 L i).n:=by omega
             rw[ad] at a6
             have t:Hid (∃O,Ik J W0 l Bc (((((An (Ai L.s)++Ao L L.lets.n)++Aj L L.crops.n)++Aa L L.reaches.n)++Aq L L.farms.n)++AV L (i+1)).length O wq):=yb (a6.o.elim fun N h3=>⟨N,by
              have Y:(AV L (i+1))=AV L i++(An (Ee L.rots i)++BI (A2 L i) (A2 L i).n):=Ak _ i
              have e:(((((An (Ai L.s)++Ao L L.lets.n)++Aj L L.crops.n)++Aa L L.reaches.n)++Aq L L.farms.n)++AV L (i+1)).length=((((((An (Ai L.s)++Ao L L.lets.n)++Aj L L.crops.n)++Aa L L.reaches.n)++Aq L L.farms.n)++AV L i++An (Ee L.rots i))++BI (A2 L i) (A2 L i).n).length:=by rw[Y];simp only[yG]
              rw[e];exact h3⟩)
             clear a6 ad c
             go_wp2
             first
             |exact ⟨⟨i+1,by omega,by go_num,t⟩,by simp[intOf];omega⟩
             |(refine ⟨?_,by simp[intOf];omega⟩;(repeat apply @Exists.intro Value);exact ⟨⟨i+1,by omega,by go_num,t⟩,rfl⟩)
          ·have y:i=L.rots.n:=by omega
           rw[y] at d
           have I:Hid (∃O,Ik J W0 l Bc ((((((An (Ai L.s)++Ao L L.lets.n)++Aj L L.crops.n)++Aa L L.reaches.n)++Aq L L.farms.n)++AV L L.rots.n)++AJ L 0).length O wr):=yb (by
            have:=d.o
            rw[show ((((((An (Ai L.s)++Ao L L.lets.n)++Aj L L.crops.n)++Aa L L.reaches.n)++Aq L L.farms.n)++AV L L.rots.n)++AJ L 0).length=(((((An (Ai L.s)++Ao L L.lets.n)++Aj L L.crops.n)++Aa L L.reaches.n)++Aq L L.farms.n)++AV L L.rots.n).length by simp[AJ]]
            exact this)
           clear d y
           have a:=f.o.rights
           unfold Aw.v at a
           clear f
           go_wp2_with fail
           clear c a
           go_loopw [191] (fun H wr=>∃i:Nat,i<=L.rights.n∧H=iV i∧Hid (∃O,Ik J W0 l Bc ((((((An (Ai L.s)++Ao L L.lets.n)++Aj L L.crops.n)++Aa L L.reaches.n)++Aq L L.farms.n)++AV L L.rots.n)++AJ L i).length O wr)) (fun H _=>L.rights.n - (intOf H).toNat)
           case atStart=>exact ⟨0,yI _,rfl,I⟩
           case round=>
            clear I
            obtain ⟨i,hi,rfl,d⟩:=hrel
            have f:=yb (d.o.elim fun O h=>x.o.hd _ _ _ h.j)
            have c:=f.o.box
            by_cases q:i < L.rights.n
            ·obtain ⟨b,o,Q,g⟩:=W.o.rights.get q
             have a:=f.o.rights
             unfold Aw.v at a
             rw[Q] at a
             have a0:(i:Int) < (L.rights.n:Int):=by omega
             have R:L.rights.n<=140737488355328:=W.o.rights.1
             have A:(fun i=>An (Kx L.rights i)) i=((#[pV b (o+i*37+7),pV b (o+i*37+13),pV b (o+i*37+19),pV b (o+i*37+25),pV b (o+i*37+31)]:Array Value).toList.map (fun p=>#[p,iV 0])):=by
              simp only[An,Kx,Aw.ptr,g,zu,zN]
             have HP:Hid (∃post,X=((((((An (Ai L.s)++Ao L L.lets.n)++Aj L L.crops.n)++Aa L L.reaches.n)++Aq L L.farms.n)++AV L L.rots.n)++AJ L i)++((#[pV b (o+i*37+7),pV b (o+i*37+13),pV b (o+i*37+19),pV b (o+i*37+25),pV b (o+i*37+31)]:Array Value).toList.map (fun p=>#[p,iV 0])++post)):=yb (by
              obtain ⟨post,C⟩:=BC (fun i=>An (Kx L.rights i)) q
              have D:AJ L L.rights.n=AJ L i++((#[pV b (o+i*37+7),pV b (o+i*37+13),pV b (o+i*37+19),pV b (o+i*37+25),pV b (o+i*37+31)]:Array Value).toList.map (fun p=>#[p,iV 0])++post):=C.trans (yD (fun z=>AJ L i++(z++post)) A)
              refine ⟨(post++(Bm L L.duties.n)),?_⟩
              rw[HX.o]
              unfold BK
              rw[D]
              simp only[yG])
             clear A
             have U:=yb g
             clear g Q
             obtain ⟨O,m⟩:=d.o
             go_wp2_with fail
             have F:=yb (m.below x.o (yg _ _).drew)
             have a2:=yb (m.below x.o (((yg _ _).alloc (yf _) (.cells #[pV b (o+i*37+7),pV b (o+i*37+13),pV b (o+i*37+19),pV b (o+i*37+25),pV b (o+i*37+31)] 150)).drew))
             have K:=yb (x.o.hd _ _ _ F.o.j)
             have S:=yb (x.o.hd _ _ _ a2.o.j)
             have P:=K.o.box
             go_region_held2 (fun w'=>w'.cell? (aV Bs 0)=some (pV L.s 0)) (first|exact K.o.box|exact S.o.box|exact M.o.box)
              (first|(go_at_call 93;refine (Dp x.o hn (pre:=(((((An (Ai L.s)++Ao L L.lets.n)++Aj L L.crops.n)++Aa L L.reaches.n)++Aq L L.farms.n)++AV L L.rots.n)++AJ L i) F.o 0 _ 5 rfl _ HP.o (by decide) (by simp) _ rfl).mono ?_;rintro e w3 (⟨r,rfl,hr⟩|⟨V,rfl,C⟩);rotate_left;exact ⟨rfl,.inr ⟨V,rfl,C⟩⟩;have M:=yb (hr.elim (fun h=>h.2.elim fun O h=>x.o.hd _ _ _ h.j) (fun h=>h.2.elim fun O h=>x.o.hdx _ _ h));have G:=yb hr;clear hr))
             clear P c a m
             rcases G.o with ⟨rfl,N,h3⟩|⟨rfl,N,u⟩
             ·have t:Hid (∃O,Ik J W0 l Bc ((((((An (Ai L.s)++Ao L L.lets.n)++Aj L L.crops.n)++Aa L L.reaches.n)++Aq L L.farms.n)++AV L L.rots.n)++AJ L (i+1)).length O w3):=yb ⟨N,by
               have Y:(AJ L (i+1)).length=(AJ L i).length+5:=by rw[show AJ L (i+1)=AJ L i++_ from Ak _ i,yn];rfl
               have e:((((((An (Ai L.s)++Ao L L.lets.n)++Aj L L.crops.n)++Aa L L.reaches.n)++Aq L L.farms.n)++AV L L.rots.n)++AJ L (i+1)).length=((((((An (Ai L.s)++Ao L L.lets.n)++Aj L L.crops.n)++Aa L L.reaches.n)++Aq L L.farms.n)++AV L L.rots.n)++AJ L i).length+5:=by simp only[yn,Y];omega
               rw[e];exact h3⟩
              clear h3 G
              go_wp2
              first
              |exact ⟨⟨i+1,by omega,by go_num,t⟩,by simp[intOf];omega⟩
              |(refine ⟨?_,by simp[intOf];omega⟩;(repeat apply @Exists.intro Value);exact ⟨⟨i+1,by omega,by go_num,t⟩,rfl⟩)
             ·have E:=yb u
              clear u
              go_wp2
              refine zw (zs rfl _ _ _) rfl ?_
              exact .inl ⟨⟨_,rfl⟩,.inr ⟨_,E.o⟩⟩
            ·have y:i=L.rights.n:=by omega
             rw[y] at d
             have I:Hid (∃O,Ik J W0 l Bc (((((((An (Ai L.s)++Ao L L.lets.n)++Aj L L.crops.n)++Aa L L.reaches.n)++Aq L L.farms.n)++AV L L.rots.n)++AJ L L.rights.n)++Bm L 0).length O wr):=yb (by
              have:=d.o
              rw[show (((((((An (Ai L.s)++Ao L L.lets.n)++Aj L L.crops.n)++Aa L L.reaches.n)++Aq L L.farms.n)++AV L L.rots.n)++AJ L L.rights.n)++Bm L 0).length=((((((An (Ai L.s)++Ao L L.lets.n)++Aj L L.crops.n)++Aa L L.reaches.n)++Aq L L.farms.n)++AV L L.rots.n)++AJ L L.rights.n).length by simp[Bm]]
              exact this)
             clear d y
             have a:=f.o.duties
             unfold Aw.v at a
             clear f
             go_wp2_with fail
             clear c a
             go_loopw [225] (fun H wr=>∃i:Nat,i<=L.duties.n∧H=iV i∧Hid (∃O,Ik J W0 l Bc (((((((An (Ai L.s)++Ao L L.lets.n)++Aj L L.crops.n)++Aa L L.reaches.n)++Aq L L.farms.n)++AV L L.rots.n)++AJ L L.rights.n)++Bm L i).length O wr)) (fun H _=>L.duties.n - (intOf H).toNat)
             case atStart=>exact ⟨0,yI _,rfl,I⟩
             case round=>
              clear I
              obtain ⟨i,hi,rfl,d⟩:=hrel
              have f:=yb (d.o.elim fun O h=>x.o.hd _ _ _ h.j)
              have c:=f.o.box
              by_cases q:i < L.duties.n
              ·obtain ⟨b,o,Q,g⟩:=W.o.duties.get q
               have a:=f.o.duties
               unfold Aw.v at a
               rw[Q] at a
               have a0:(i:Int) < (L.duties.n:Int):=by omega
               have R:L.duties.n<=140737488355328:=W.o.duties.1
               have A:(fun i=>An [L.duties.ptr 11 i 5]) i=((#[pV b (o+i*11+5)]:Array Value).toList.map (fun p=>#[p,iV 0])):=by
                simp only[An,Aw.ptr,g,zu,zN]
               have HP:Hid (∃post,X=(((((((An (Ai L.s)++Ao L L.lets.n)++Aj L L.crops.n)++Aa L L.reaches.n)++Aq L L.farms.n)++AV L L.rots.n)++AJ L L.rights.n)++Bm L i)++((#[pV b (o+i*11+5)]:Array Value).toList.map (fun p=>#[p,iV 0])++post)):=yb (by
                obtain ⟨post,C⟩:=BC (fun i=>An [L.duties.ptr 11 i 5]) q
                have D:Bm L L.duties.n=Bm L i++((#[pV b (o+i*11+5)]:Array Value).toList.map (fun p=>#[p,iV 0])++post):=C.trans (yD (fun z=>Bm L i++(z++post)) A)
                refine ⟨post,?_⟩
                rw[HX.o]
                unfold BK
                rw[D]
                simp only[yG])
               clear A
               have U:=yb g
               clear g Q
               obtain ⟨O,m⟩:=d.o
               have T:=yb m
               clear m
               go_wp2_with fail
               refine (Dp x.o hn (pre:=((((((An (Ai L.s)++Ao L L.lets.n)++Aj L L.crops.n)++Aa L L.reaches.n)++Aq L L.farms.n)++AV L L.rots.n)++AJ L L.rights.n)++Bm L i) T.o 0 #[pV b (o+i*11+5)] 1 rfl _ HP.o (by decide) (by simp) _ rfl).mono ?_
               rintro e w3 (⟨r,rfl,hr⟩|⟨V,rfl,C⟩)
               rotate_left
               ·exact ⟨rfl,.inr ⟨V,rfl,C⟩⟩
               have G:=yb hr
               clear hr c a
               rcases G.o with ⟨rfl,N,h3⟩|⟨rfl,N,u⟩
               ·have t:Hid (∃O,Ik J W0 l Bc (((((((An (Ai L.s)++Ao L L.lets.n)++Aj L L.crops.n)++Aa L L.reaches.n)++Aq L L.farms.n)++AV L L.rots.n)++AJ L L.rights.n)++Bm L (i+1)).length O w3):=yb ⟨N,by
                 have Y:(Bm L (i+1)).length=(Bm L i).length+1:=by rw[show Bm L (i+1)=Bm L i++_ from Ak _ i,yn];rfl
                 have e:(((((((An (Ai L.s)++Ao L L.lets.n)++Aj L L.crops.n)++Aa L L.reaches.n)++Aq L L.farms.n)++AV L L.rots.n)++AJ L L.rights.n)++Bm L (i+1)).length=(((((((An (Ai L.s)++Ao L L.lets.n)++Aj L L.crops.n)++Aa L L.reaches.n)++Aq L L.farms.n)++AV L L.rots.n)++AJ L L.rights.n)++Bm L i).length+1:=by simp only[yn,Y];omega
                 rw[e];exact h3⟩
                clear h3 G
                go_wp2
                first
                |exact ⟨⟨i+1,by omega,by go_num,t⟩,by simp[intOf];omega⟩
                |(refine ⟨?_,by simp[intOf];omega⟩;(repeat apply @Exists.intro Value);exact ⟨⟨i+1,by omega,by go_num,t⟩,rfl⟩)
               ·have E:=yb u
                clear u
                go_wp2
                refine zw (zs rfl _ _ _) rfl ?_
                exact .inl ⟨⟨_,rfl⟩,.inr ⟨_,E.o⟩⟩
              ·have y:i=L.duties.n:=by omega
               rw[y] at d
               have I:Hid (∃O,J X.length O wr):=yb (d.o.elim fun O h=>⟨O,by
                have:=h.j
                rw[show (((((((An (Ai L.s)++Ao L L.lets.n)++Aj L L.crops.n)++Aa L L.reaches.n)++Aq L L.farms.n)++AV L L.rots.n)++AJ L L.rights.n)++Bm L L.duties.n).length=X.length by rw[HX.o];unfold BK;simp] at this
                exact this⟩)
               clear d y f c
               go_wp2
               go_end0
               exact .inl ⟨⟨_,rfl⟩,.inl I.o⟩
end Go.Proofs.YtjofgpfocadomaaGreatDoor
