/- The iterator over a source's expressions: the walk. -/
import Derived.Test.YtjofgpfocadomaaGreatDoorUs0
import Derived.Deep.RegionHeld2
import Derived.StillTailTactics
set_option maxRecDepth 100000
set_option maxHeartbeats 16000000
set_option linter.unusedSimpArgs false
namespace Go.Proofs.YtjofgpfocadomaaGreatDoor
open Go.RowKit
def UM(J:Nat->NP->World->Prop)(Jx:NP->World->Prop)(Jp:List PanicEntry->NP->World->Prop)(k:Nat)(e:Ending)(W':World):Prop:=
 ((∃v,e=.returned v)∧((∃O,J k O W')∨∃O,Jx O W'))∨∃a,e=.panicked a∧∃O,Jp a O W'
theorem Hv.start{n l:Nat}{P:Program}{xs:List (Array Value)}{Hd:World->Prop}{J:Nat->NP->World->Prop}{Jx:NP->World->Prop}{Jp:List PanicEntry->NP->World->Prop}{W0:World}(a:VL n l P xs Hd J Jx Jp W0)(h0:J 0 (fun _=>False) W0)(t:TypeId):
  Hv J W0 l W0.heap.size 0 (fun b=>False∨(W0.heap.size<=b∧b < (W0.alloc (.cells #[.func (.yield l) #[] #[]] t)).heap.size)) (W0.alloc (.cells #[.func (.yield l) #[] #[]] t)):=
 ⟨CC a.stays h0 ((yg _ _).alloc (yf _) _),.inr ⟨yf _,by simp⟩,by
  have:(W0.alloc (.cells #[.func (.yield l) #[] #[]] t)).heap[W0.heap.size]?=some (.cells #[.func (.yield l) #[] #[]] t (0,0)):=World.alloc_heap_new _ _
  simp only[World.cell?,this];simp,by simp,fun b hb=>by rcases hb with hb|hb;exact hb.elim;exact hb⟩
theorem P8(n:Nat)(hn:1<=n)(l Bs:Nat)(L:Bq)(hL:L.Ok)(J:Nat->NP->World->Prop)(Jx:NP->World->Prop)(Jp:List PanicEntry->NP->World->Prop)(W0:World)
 (hc:VL (n - 1) l Tryz.prog (BH L) (Ip L Bs) J Jx Jp W0)(h0:J 0 (fun _=>False) W0):
  Calls Tryz.prog 92 #[.func (.yield l) #[] #[],.pointer (some ⟨Bs,0,none⟩)] W0 (UM J Jx Jp (BH L).length):=by
 have ap:∀(fn:Fn) (first cap:Array Value) (w:World),(Instr.makeFunc fn first cap).run Tryz.prog w=.ok (.func fn first cap) w:=fun _ _ _ _=>rfl
 have x:=yb hc
 have W:=yb hL
 have HI:=yb (Hv.start hc h0 149)
 obtain ⟨X,hX⟩:∃X,X=BH L:=⟨_,rfl⟩
 have HX:=yb hX
 rw[<-hX] at x ⊢
 clear hc hL h0 hX
 go_enter Tryz.func92,Tryz.ntmps92
 go_wp2_with fail
 generalize hw:W0.alloc (.cells #[.func (.yield l) #[] #[]] 149)=w1 at HI ⊢
 clear hw
 generalize W0.heap.size=Bc at HI ⊢
 have HH:=yb (x.o.hd _ _ _ HI.o.j)
 have G:=yb (HI.o.below x.o (yg _ _).drew)
 have M:=yb (x.o.hd _ _ _ G.o.j)
 have S:=yb (x.o.hd _ _ _ (HI.o.below x.o (((yg _ _).alloc (yf _) (.cells #[pV L.s 1,pV L.s 7,pV L.s 13] 150)).drew)).j)
 have aa:Hid (∃post,X=[]++((#[pV L.s 1,pV L.s 7,pV L.s 13]:Array Value).toList.map (fun p=>#[p,iV 0])++post)):=yb ⟨_,by rw[HX.o];rfl⟩
 go_region_held2 (fun w'=>w'.cell? (aV Bs 0)=some (pV L.s 0)) (first|exact M.o.box|exact S.o.box|exact N.o.box)
  (first|(go_at_call 93;refine (Dc x.o hn (pre:=[]) G.o 0 _ 3 rfl _ aa.o (by decide) (by simp) _ rfl).mono ?_;rintro e w2 (⟨r,rfl,hr⟩|⟨V,rfl,C⟩);rotate_left;exact ⟨rfl,.inr ⟨V,rfl,C⟩⟩;have N:=yb (hr.elim (fun h=>h.2.elim fun O h=>x.o.hd _ _ _ h.j) (fun h=>h.2.elim fun O h=>x.o.hdx _ _ h));have H:=yb hr;clear hr))
 rcases H.o with ⟨rfl,O2,ag⟩|⟨rfl,O2,ab⟩
 case inr=>
  have aj:=yb ab
  clear ab H N
  go_wp2
  refine zv (zn rfl _ _ _) rfl ?_
  exact .inl ⟨⟨_,rfl⟩,.inr ⟨_,aj.o⟩⟩
 have I:Hid (∃O,Hv J W0 l Bc (Al (Af L.s)++Am L 0).length O w2):=yb ⟨O2,ag⟩
 clear ag H G M S aa HI HH
 have d:=N.o.box
 have a:=N.o.lets
 unfold As.v at a
 go_wp2_with fail
 clear N d a
 go_loopw [34] (fun F wr=>∃i:Nat,i<=L.lets.n∧F=iV i∧Hid (∃O,Hv J W0 l Bc (Al (Af L.s)++Am L i).length O wr)) (fun F _=>L.lets.n - (intOf F).toNat)
 case atStart=>exact ⟨0,yH _,rfl,I⟩
 case round=>
  clear I
  obtain ⟨i,hi,rfl,c⟩:=hrel
  have f:=yb (c.o.elim fun O h=>x.o.hd _ _ _ h.j)
  have d:=f.o.box
  by_cases q:i < L.lets.n
  ·obtain ⟨b,o,Q,g⟩:=W.o.lets.get q
   have a:=f.o.lets
   unfold As.v at a
   rw[Q] at a
   have a0:(i:Int) < (L.lets.n:Int):=by omega
   have R:L.lets.n<=140737488355328:=W.o.lets.1
   have A:(fun i=> [#[L.lets.ptr 7 i 1,iV (1+(i:Int))]]) i=((#[pV b (o+i*7+1)]:Array Value).toList.map (fun p=>#[p,iV (1+(i:Int))])):=by
    simp only[As.ptr,g,zu,zP]
   have HP:Hid (∃post,X=(Al (Af L.s)++Am L i)++((#[pV b (o+i*7+1)]:Array Value).toList.map (fun p=>#[p,iV (1+(i:Int))])++post)):=yb (by
    obtain ⟨post,C⟩:=Br (fun i=> [#[L.lets.ptr 7 i 1,iV (1+(i:Int))]]) q
    have D:Am L L.lets.n=Am L i++((#[pV b (o+i*7+1)]:Array Value).toList.map (fun p=>#[p,iV (1+(i:Int))])++post):=C.trans (yC (fun z=>Am L i++(z++post)) A)
    refine ⟨(post++((Ag L L.crops.n++(Aa L L.reaches.n++(An L L.farms.n++(AV L L.rots.n++(AG L L.rights.n++Bh L L.duties.n))))))),?_⟩
    rw[HX.o]
    unfold BH
    rw[D]
    simp only[yI])
   clear A
   have U:=yb g
   clear g Q
   obtain ⟨O,m⟩:=c.o
   have T:=yb m
   clear m
   go_wp2_with fail
   refine (Dc x.o hn (pre:=Al (Af L.s)++Am L i) T.o (1+(i:Int)) #[pV b (o+i*7+1)] 1 rfl _ HP.o (by decide) (by simp) _ rfl).mono ?_
   rintro e w3 (⟨r,rfl,hr⟩|⟨V,rfl,C⟩)
   rotate_left
   ·exact ⟨rfl,.inr ⟨V,rfl,C⟩⟩
   have H:=yb hr
   clear hr d a
   rcases H.o with ⟨rfl,K,h3⟩|⟨rfl,K,t⟩
   ·have u:Hid (∃O,Hv J W0 l Bc (Al (Af L.s)++Am L (i+1)).length O w3):=yb ⟨K,by
     have Y:(Am L (i+1)).length=(Am L i).length+1:=by rw[show Am L (i+1)=Am L i++_ from Ai _ i,yn];rfl
     have e:(Al (Af L.s)++Am L (i+1)).length=(Al (Af L.s)++Am L i).length+1:=by simp only[yn,Y];omega
     rw[e];exact h3⟩
    clear h3 H
    go_wp2
    first
    |exact ⟨⟨i+1,by omega,by go_num,u⟩,by simp[intOf];omega⟩
    |(refine ⟨?_,by simp[intOf];omega⟩;(repeat apply @Exists.intro Value);exact ⟨⟨i+1,by omega,by go_num,u⟩,rfl⟩)
   ·have E:=yb t
    clear t
    go_wp2
    refine zv (zn rfl _ _ _) rfl ?_
    exact .inl ⟨⟨_,rfl⟩,.inr ⟨_,E.o⟩⟩
  ·have y:i=L.lets.n:=by omega
   rw[y] at c
   have I:Hid (∃O,Hv J W0 l Bc ((Al (Af L.s)++Am L L.lets.n)++Ag L 0).length O wr):=yb (by
    have:=c.o
    rw[show ((Al (Af L.s)++Am L L.lets.n)++Ag L 0).length=(Al (Af L.s)++Am L L.lets.n).length by simp[Ag]]
    exact this)
   clear c y
   have a:=f.o.crops
   unfold As.v at a
   clear f
   go_wp2_with fail
   clear d a
   go_loopw [56] (fun F wr=>∃i:Nat,i<=L.crops.n∧F=iV i∧Hid (∃O,Hv J W0 l Bc ((Al (Af L.s)++Am L L.lets.n)++Ag L i).length O wr)) (fun F _=>L.crops.n - (intOf F).toNat)
   case atStart=>exact ⟨0,yH _,rfl,I⟩
   case round=>
    clear I
    obtain ⟨i,hi,rfl,c⟩:=hrel
    have f:=yb (c.o.elim fun O h=>x.o.hd _ _ _ h.j)
    have d:=f.o.box
    by_cases q:i < L.crops.n
    ·obtain ⟨b,o,Q,g⟩:=W.o.crops.get q
     have a:=f.o.crops
     unfold As.v at a
     rw[Q] at a
     have a0:(i:Int) < (L.crops.n:Int):=by omega
     have R:L.crops.n<=140737488355328:=W.o.crops.1
     have A:(fun i=>Al [L.crops.ptr 7 i 1]) i=((#[pV b (o+i*7+1)]:Array Value).toList.map (fun p=>#[p,iV 0])):=by
      simp only[Al,As.ptr,g,zu,zP]
     have HP:Hid (∃post,X=((Al (Af L.s)++Am L L.lets.n)++Ag L i)++((#[pV b (o+i*7+1)]:Array Value).toList.map (fun p=>#[p,iV 0])++post)):=yb (by
      obtain ⟨post,C⟩:=Br (fun i=>Al [L.crops.ptr 7 i 1]) q
      have D:Ag L L.crops.n=Ag L i++((#[pV b (o+i*7+1)]:Array Value).toList.map (fun p=>#[p,iV 0])++post):=C.trans (yC (fun z=>Ag L i++(z++post)) A)
      refine ⟨(post++((Aa L L.reaches.n++(An L L.farms.n++(AV L L.rots.n++(AG L L.rights.n++Bh L L.duties.n)))))),?_⟩
      rw[HX.o]
      unfold BH
      rw[D]
      simp only[yI])
     clear A
     have U:=yb g
     clear g Q
     obtain ⟨O,m⟩:=c.o
     have T:=yb m
     clear m
     go_wp2_with fail
     refine (Dc x.o hn (pre:=(Al (Af L.s)++Am L L.lets.n)++Ag L i) T.o 0 #[pV b (o+i*7+1)] 1 rfl _ HP.o (by decide) (by simp) _ rfl).mono ?_
     rintro e w3 (⟨r,rfl,hr⟩|⟨V,rfl,C⟩)
     rotate_left
     ·exact ⟨rfl,.inr ⟨V,rfl,C⟩⟩
     have H:=yb hr
     clear hr d a
     rcases H.o with ⟨rfl,K,h3⟩|⟨rfl,K,t⟩
     ·have u:Hid (∃O,Hv J W0 l Bc ((Al (Af L.s)++Am L L.lets.n)++Ag L (i+1)).length O w3):=yb ⟨K,by
       have Y:(Ag L (i+1)).length=(Ag L i).length+1:=by rw[show Ag L (i+1)=Ag L i++_ from Ai _ i,yn];rfl
       have e:((Al (Af L.s)++Am L L.lets.n)++Ag L (i+1)).length=((Al (Af L.s)++Am L L.lets.n)++Ag L i).length+1:=by simp only[yn,Y];omega
       rw[e];exact h3⟩
      clear h3 H
      go_wp2
      first
      |exact ⟨⟨i+1,by omega,by go_num,u⟩,by simp[intOf];omega⟩
      |(refine ⟨?_,by simp[intOf];omega⟩;(repeat apply @Exists.intro Value);exact ⟨⟨i+1,by omega,by go_num,u⟩,rfl⟩)
     ·have E:=yb t
      clear t
      go_wp2
      refine zv (zn rfl _ _ _) rfl ?_
      exact .inl ⟨⟨_,rfl⟩,.inr ⟨_,E.o⟩⟩
    ·have y:i=L.crops.n:=by omega
     rw[y] at c
     have I:Hid (∃O,Hv J W0 l Bc (((Al (Af L.s)++Am L L.lets.n)++Ag L L.crops.n)++Aa L 0).length O wr):=yb (by
      have:=c.o
      rw[show (((Al (Af L.s)++Am L L.lets.n)++Ag L L.crops.n)++Aa L 0).length=((Al (Af L.s)++Am L L.lets.n)++Ag L L.crops.n).length by simp[Aa]]
      exact this)
     clear c y
     have a:=f.o.reaches
     unfold As.v at a
     clear f
     go_wp2_with fail
     clear d a
     go_loopw [76] (fun F wr=>∃i:Nat,i<=L.reaches.n∧F=iV i∧Hid (∃O,Hv J W0 l Bc (((Al (Af L.s)++Am L L.lets.n)++Ag L L.crops.n)++Aa L i).length O wr)) (fun F _=>L.reaches.n - (intOf F).toNat)
     case atStart=>exact ⟨0,yH _,rfl,I⟩
     case round=>
      clear I
      obtain ⟨i,hi,rfl,c⟩:=hrel
      have f:=yb (c.o.elim fun O h=>x.o.hd _ _ _ h.j)
      have d:=f.o.box
      by_cases q:i < L.reaches.n
      ·obtain ⟨b,o,Q,g⟩:=W.o.reaches.get q
       have a:=f.o.reaches
       unfold As.v at a
       rw[Q] at a
       have a0:(i:Int) < (L.reaches.n:Int):=by omega
       have R:L.reaches.n<=140737488355328:=W.o.reaches.1
       have A:(fun i=>Al (JT L.reaches i)) i=((#[pV b (o+i*51+3),pV b (o+i*51+9),pV b (o+i*51+15),pV b (o+i*51+21),pV b (o+i*51+27),pV b (o+i*51+33),pV b (o+i*51+39),pV b (o+i*51+45)]:Array Value).toList.map (fun p=>#[p,iV 0])):=by
        simp only[Al,JT,As.ptr,g,zu,zP]
       have HP:Hid (∃post,X=(((Al (Af L.s)++Am L L.lets.n)++Ag L L.crops.n)++Aa L i)++((#[pV b (o+i*51+3),pV b (o+i*51+9),pV b (o+i*51+15),pV b (o+i*51+21),pV b (o+i*51+27),pV b (o+i*51+33),pV b (o+i*51+39),pV b (o+i*51+45)]:Array Value).toList.map (fun p=>#[p,iV 0])++post)):=yb (by
        obtain ⟨post,C⟩:=Br (fun i=>Al (JT L.reaches i)) q
        have D:Aa L L.reaches.n=Aa L i++((#[pV b (o+i*51+3),pV b (o+i*51+9),pV b (o+i*51+15),pV b (o+i*51+21),pV b (o+i*51+27),pV b (o+i*51+33),pV b (o+i*51+39),pV b (o+i*51+45)]:Array Value).toList.map (fun p=>#[p,iV 0])++post):=C.trans (yC (fun z=>Aa L i++(z++post)) A)
        refine ⟨(post++((An L L.farms.n++(AV L L.rots.n++(AG L L.rights.n++Bh L L.duties.n))))),?_⟩
        rw[HX.o]
        unfold BH
        rw[D]
        simp only[yI])
       clear A
       have U:=yb g
       clear g Q
       obtain ⟨O,m⟩:=c.o
       go_wp2_with fail
       have G:=yb (m.below x.o (yg _ _).drew)
       have a2:=yb (m.below x.o (((yg _ _).alloc (yf _) (.cells #[pV b (o+i*51+3),pV b (o+i*51+9),pV b (o+i*51+15),pV b (o+i*51+21),pV b (o+i*51+27),pV b (o+i*51+33),pV b (o+i*51+39),pV b (o+i*51+45)] 150)).drew))
       have M:=yb (x.o.hd _ _ _ G.o.j)
       have S:=yb (x.o.hd _ _ _ a2.o.j)
       have P:=M.o.box
       go_region_held2 (fun w'=>w'.cell? (aV Bs 0)=some (pV L.s 0)) (first|exact M.o.box|exact S.o.box|exact N.o.box)
        (first|(go_at_call 93;refine (Dc x.o hn (pre:=((Al (Af L.s)++Am L L.lets.n)++Ag L L.crops.n)++Aa L i) G.o 0 _ 8 rfl _ HP.o (by decide) (by simp) _ rfl).mono ?_;rintro e w3 (⟨r,rfl,hr⟩|⟨V,rfl,C⟩);rotate_left;exact ⟨rfl,.inr ⟨V,rfl,C⟩⟩;have N:=yb (hr.elim (fun h=>h.2.elim fun O h=>x.o.hd _ _ _ h.j) (fun h=>h.2.elim fun O h=>x.o.hdx _ _ h));have H:=yb hr;clear hr))
       clear P d a m
       rcases H.o with ⟨rfl,K,h3⟩|⟨rfl,K,t⟩
       ·have u:Hid (∃O,Hv J W0 l Bc (((Al (Af L.s)++Am L L.lets.n)++Ag L L.crops.n)++Aa L (i+1)).length O w3):=yb ⟨K,by
         have Y:(Aa L (i+1)).length=(Aa L i).length+8:=by rw[show Aa L (i+1)=Aa L i++_ from Ai _ i,yn];rfl
         have e:(((Al (Af L.s)++Am L L.lets.n)++Ag L L.crops.n)++Aa L (i+1)).length=(((Al (Af L.s)++Am L L.lets.n)++Ag L L.crops.n)++Aa L i).length+8:=by simp only[yn,Y];omega
         rw[e];exact h3⟩
        clear h3 H
        go_wp2
        first
        |exact ⟨⟨i+1,by omega,by go_num,u⟩,by simp[intOf];omega⟩
        |(refine ⟨?_,by simp[intOf];omega⟩;(repeat apply @Exists.intro Value);exact ⟨⟨i+1,by omega,by go_num,u⟩,rfl⟩)
       ·have E:=yb t
        clear t
        go_wp2
        refine zv (zn rfl _ _ _) rfl ?_
        exact .inl ⟨⟨_,rfl⟩,.inr ⟨_,E.o⟩⟩
      ·have y:i=L.reaches.n:=by omega
       rw[y] at c
       have I:Hid (∃O,Hv J W0 l Bc ((((Al (Af L.s)++Am L L.lets.n)++Ag L L.crops.n)++Aa L L.reaches.n)++An L 0).length O wr):=yb (by
        have:=c.o
        rw[show ((((Al (Af L.s)++Am L L.lets.n)++Ag L L.crops.n)++Aa L L.reaches.n)++An L 0).length=(((Al (Af L.s)++Am L L.lets.n)++Ag L L.crops.n)++Aa L L.reaches.n).length by simp[An]]
        exact this)
       clear c y
       have a:=f.o.farms
       unfold As.v at a
       clear f
       go_wp2_with fail
       clear d a
       go_loopw [123] (fun F wr=>∃i:Nat,i<=L.farms.n∧F=iV i∧Hid (∃O,Hv J W0 l Bc ((((Al (Af L.s)++Am L L.lets.n)++Ag L L.crops.n)++Aa L L.reaches.n)++An L i).length O wr)) (fun F _=>L.farms.n - (intOf F).toNat)
       case atStart=>exact ⟨0,yH _,rfl,I⟩
       case round=>
        clear I
        obtain ⟨i,hi,rfl,c⟩:=hrel
        have f:=yb (c.o.elim fun O h=>x.o.hd _ _ _ h.j)
        have d:=f.o.box
        by_cases q:i < L.farms.n
        ·obtain ⟨b,o,Q,g⟩:=W.o.farms.get q
         have a:=f.o.farms
         unfold As.v at a
         rw[Q] at a
         have a0:(i:Int) < (L.farms.n:Int):=by omega
         have R:L.farms.n<=140737488355328:=W.o.farms.1
         have A:(fun i=>Al [L.farms.ptr 12 i 4]) i=((#[pV b (o+i*12+4)]:Array Value).toList.map (fun p=>#[p,iV 0])):=by
          simp only[Al,As.ptr,g,zu,zP]
         have HP:Hid (∃post,X=((((Al (Af L.s)++Am L L.lets.n)++Ag L L.crops.n)++Aa L L.reaches.n)++An L i)++((#[pV b (o+i*12+4)]:Array Value).toList.map (fun p=>#[p,iV 0])++post)):=yb (by
          obtain ⟨post,C⟩:=Br (fun i=>Al [L.farms.ptr 12 i 4]) q
          have D:An L L.farms.n=An L i++((#[pV b (o+i*12+4)]:Array Value).toList.map (fun p=>#[p,iV 0])++post):=C.trans (yC (fun z=>An L i++(z++post)) A)
          refine ⟨(post++((AV L L.rots.n++(AG L L.rights.n++Bh L L.duties.n)))),?_⟩
          rw[HX.o]
          unfold BH
          rw[D]
          simp only[yI])
         clear A
         have U:=yb g
         clear g Q
         obtain ⟨O,m⟩:=c.o
         have T:=yb m
         clear m
         go_wp2_with fail
         refine (Dc x.o hn (pre:=(((Al (Af L.s)++Am L L.lets.n)++Ag L L.crops.n)++Aa L L.reaches.n)++An L i) T.o 0 #[pV b (o+i*12+4)] 1 rfl _ HP.o (by decide) (by simp) _ rfl).mono ?_
         rintro e w3 (⟨r,rfl,hr⟩|⟨V,rfl,C⟩)
         rotate_left
         ·exact ⟨rfl,.inr ⟨V,rfl,C⟩⟩
         have H:=yb hr
         clear hr d a
         rcases H.o with ⟨rfl,K,h3⟩|⟨rfl,K,t⟩
         ·have u:Hid (∃O,Hv J W0 l Bc ((((Al (Af L.s)++Am L L.lets.n)++Ag L L.crops.n)++Aa L L.reaches.n)++An L (i+1)).length O w3):=yb ⟨K,by
           have Y:(An L (i+1)).length=(An L i).length+1:=by rw[show An L (i+1)=An L i++_ from Ai _ i,yn];rfl
           have e:((((Al (Af L.s)++Am L L.lets.n)++Ag L L.crops.n)++Aa L L.reaches.n)++An L (i+1)).length=((((Al (Af L.s)++Am L L.lets.n)++Ag L L.crops.n)++Aa L L.reaches.n)++An L i).length+1:=by simp only[yn,Y];omega
           rw[e];exact h3⟩
          clear h3 H
          go_wp2
          first
          |exact ⟨⟨i+1,by omega,by go_num,u⟩,by simp[intOf];omega⟩
          |(refine ⟨?_,by simp[intOf];omega⟩;(repeat apply @Exists.intro Value);exact ⟨⟨i+1,by omega,by go_num,u⟩,rfl⟩)
         ·have E:=yb t
          clear t
          go_wp2
          refine zv (zn rfl _ _ _) rfl ?_
          exact .inl ⟨⟨_,rfl⟩,.inr ⟨_,E.o⟩⟩
        ·have y:i=L.farms.n:=by omega
         rw[y] at c
         have I:Hid (∃O,Hv J W0 l Bc (((((Al (Af L.s)++Am L L.lets.n)++Ag L L.crops.n)++Aa L L.reaches.n)++An L L.farms.n)++AV L 0).length O wr):=yb (by
          have:=c.o
          rw[show (((((Al (Af L.s)++Am L L.lets.n)++Ag L L.crops.n)++Aa L L.reaches.n)++An L L.farms.n)++AV L 0).length=((((Al (Af L.s)++Am L L.lets.n)++Ag L L.crops.n)++Aa L L.reaches.n)++An L L.farms.n).length by simp[AV]]
          exact this)
         clear c y
         have a:=f.o.rots
         unfold As.v at a
         clear f
         go_wp2_with fail
         clear d a
         go_loopw [143] (fun F wr=>∃i:Nat,i<=L.rots.n∧F=iV i∧Hid (∃O,Hv J W0 l Bc (((((Al (Af L.s)++Am L L.lets.n)++Ag L L.crops.n)++Aa L L.reaches.n)++An L L.farms.n)++AV L i).length O wr)) (fun F _=>L.rots.n - (intOf F).toNat)
         case atStart=>exact ⟨0,yH _,rfl,I⟩
         case round=>
          clear I
          obtain ⟨i,hi,rfl,c⟩:=hrel
          have f:=yb (c.o.elim fun O h=>x.o.hd _ _ _ h.j)
          have d:=f.o.box
          by_cases q:i < L.rots.n
          ·obtain ⟨b,o,Q,g⟩:=W.o.rots.get q
           have a:=f.o.rots
           unfold As.v at a
           rw[Q] at a
           have a0:(i:Int) < (L.rots.n:Int):=by omega
           have R:L.rots.n<=140737488355328:=W.o.rots.1
           have A:(fun i=>Al (E7 L.rots i)++BB (A2 L i) (A2 L i).n) i=((#[pV b (o+i*23+4),pV b (o+i*23+10),pV b (o+i*23+16)]:Array Value).toList.map (fun p=>#[p,iV 0])++BB (A2 L i) (A2 L i).n):=by
            simp only[Al,E7,As.ptr,g,zu,zP]
           have HP:Hid (∃post,X=(((((Al (Af L.s)++Am L L.lets.n)++Ag L L.crops.n)++Aa L L.reaches.n)++An L L.farms.n)++AV L i)++((#[pV b (o+i*23+4),pV b (o+i*23+10),pV b (o+i*23+16)]:Array Value).toList.map (fun p=>#[p,iV 0])++post)):=yb (by
            obtain ⟨post,C⟩:=Br (fun i=>Al (E7 L.rots i)++BB (A2 L i) (A2 L i).n) q
            have D:AV L L.rots.n=AV L i++((#[pV b (o+i*23+4),pV b (o+i*23+10),pV b (o+i*23+16)]:Array Value).toList.map (fun p=>#[p,iV 0])++BB (A2 L i) (A2 L i).n++post):=C.trans (yC (fun z=>AV L i++(z++post)) A)
            refine ⟨BB (A2 L i) (A2 L i).n++(post++((AG L L.rights.n++Bh L L.duties.n))),?_⟩
            rw[HX.o]
            unfold BH
            rw[D]
            simp only[yI])
           clear A
           have U:=yb g
           clear g Q
           obtain ⟨O,m⟩:=c.o
           go_wp2_with fail
           have G:=yb (m.below x.o (yg _ _).drew)
           have a2:=yb (m.below x.o (((yg _ _).alloc (yf _) (.cells #[pV b (o+i*23+4),pV b (o+i*23+10),pV b (o+i*23+16)] 150)).drew))
           have M:=yb (x.o.hd _ _ _ G.o.j)
           have S:=yb (x.o.hd _ _ _ a2.o.j)
           have P:=M.o.box
           go_region_held2 (fun w'=>w'.cell? (aV Bs 0)=some (pV L.s 0)) (first|exact M.o.box|exact S.o.box|exact N.o.box)
            (first|(go_at_call 93;refine (Dc x.o hn (pre:=((((Al (Af L.s)++Am L L.lets.n)++Ag L L.crops.n)++Aa L L.reaches.n)++An L L.farms.n)++AV L i) G.o 0 _ 3 rfl _ HP.o (by decide) (by simp) _ rfl).mono ?_;rintro e w3 (⟨r,rfl,hr⟩|⟨V,rfl,C⟩);rotate_left;exact ⟨rfl,.inr ⟨V,rfl,C⟩⟩;have N:=yb (hr.elim (fun h=>h.2.elim fun O h=>x.o.hd _ _ _ h.j) (fun h=>h.2.elim fun O h=>x.o.hdx _ _ h));have H:=yb hr;clear hr))
           clear P d a m
           rcases H.o with ⟨rfl,K,h3⟩|⟨rfl,K,t⟩
           case inr=>
            have E:=yb t
            clear t
            go_wp2
            refine zv (zn rfl _ _ _) rfl ?_
            exact .inl ⟨⟨_,rfl⟩,.inr ⟨_,E.o⟩⟩
           have I:Hid (∃O,Hv J W0 l Bc ((((((Al (Af L.s)++Am L L.lets.n)++Ag L L.crops.n)++Aa L L.reaches.n)++An L L.farms.n)++AV L i++Al (E7 L.rots i))++BB (A2 L i) 0).length O w3):=yb ⟨K,by
            have e:((((((Al (Af L.s)++Am L L.lets.n)++Ag L L.crops.n)++Aa L L.reaches.n)++An L L.farms.n)++AV L i++Al (E7 L.rots i))++BB (A2 L i) 0).length=(((((Al (Af L.s)++Am L L.lets.n)++Ag L L.crops.n)++Aa L L.reaches.n)++An L L.farms.n)++AV L i).length+3:=by simp only[yn,BB,List.range_zero,zs,yE];rfl
            rw[e];exact h3⟩
           have a8:=yb (x.o.hd _ _ _ h3.j)
           have d:=a8.o.box
           have B:=a8.o.turns i q
           rw[U.o] at B
           unfold As.v at B
           clear h3 H a8 N S M G a2
           go_wp2_with fail
           clear d B
           go_loopw [170] (fun jv wq=>∃j:Nat,j<=(A2 L i).n∧jv=iV j∧Hid (∃O,Hv J W0 l Bc ((((((Al (Af L.s)++Am L L.lets.n)++Ag L L.crops.n)++Aa L L.reaches.n)++An L L.farms.n)++AV L i++Al (E7 L.rots i))++BB (A2 L i) j).length O wq)) (fun jv _=>(A2 L i).n - (intOf jv).toNat)
           case atStart=>exact ⟨0,yH _,rfl,I⟩
           case round=>
            rename_i an _
            clear I
            obtain ⟨j,hj,rfl,a6⟩:=hrel
            rename World=>wq
            have ad:=yb (a6.o.elim fun O h=>x.o.hd _ _ _ h.j)
            have d:=ad.o.box
            by_cases ac:j < (A2 L i).n
            ·obtain ⟨b2,o2,af,a7⟩:=(W.o.turns i q).get ac
             have B:=ad.o.turns i q
             rw[U.o] at B
             unfold As.v at B
             rw[af] at B
             have ao:(j:Int) < ((A2 L i).n:Int):=by omega
             have am:(A2 L i).n<=140737488355328:=(W.o.turns i q).1
             have ae:(fun k=>Al [(A2 L i).ptr 8 k 2]) j=((#[pV b2 (o2+j*8+2)]:Array Value).toList.map (fun p=>#[p,iV 0])):=by
              simp only[Al,As.ptr,a7,zu,zP]
             have ak:Hid (∃post,X=((((((Al (Af L.s)++Am L L.lets.n)++Ag L L.crops.n)++Aa L L.reaches.n)++An L L.farms.n)++AV L i++Al (E7 L.rots i))++BB (A2 L i) j)++((#[pV b2 (o2+j*8+2)]:Array Value).toList.map (fun p=>#[p,iV 0])++post)):=yb (by
              obtain ⟨post,C⟩:=Br (fun i=>Al (E7 L.rots i)++BB (A2 L i) (A2 L i).n) q
              obtain ⟨Z,ai⟩:=Br (fun k=>Al [(A2 L i).ptr 8 k 2]) ac
              have D:AV L L.rots.n=AV L i++((Al (E7 L.rots i)++BB (A2 L i) (A2 L i).n)++post):=C
              have al:BB (A2 L i) (A2 L i).n=BB (A2 L i) j++((#[pV b2 (o2+j*8+2)]:Array Value).toList.map (fun p=>#[p,iV 0])++Z):=ai.trans (yC (fun z=>BB (A2 L i) j++(z++Z)) ae)
              refine ⟨Z++(post++((AG L L.rights.n++Bh L L.duties.n))),?_⟩
              rw[HX.o]
              unfold BH
              rw[D,al]
              simp only[yI])
             obtain ⟨O,m⟩:=a6.o
             have T:=yb m
             clear m a7 af ae
             go_wp2_with fail
             refine (Dc x.o hn (pre:=(((((Al (Af L.s)++Am L L.lets.n)++Ag L L.crops.n)++Aa L L.reaches.n)++An L L.farms.n)++AV L i++Al (E7 L.rots i))++BB (A2 L i) j) T.o 0 #[pV b2 (o2+j*8+2)] 1 rfl _ ak.o (by decide) (by simp) _ rfl).mono ?_
             rintro e w5 (⟨r,rfl,hr⟩|⟨V,rfl,C⟩)
             rotate_left
             ·exact ⟨rfl,.inr ⟨V,rfl,C⟩⟩
             have H:=yb hr
             clear hr d B
             rcases H.o with ⟨rfl,K,h3⟩|⟨rfl,K,t⟩
             ·have u:Hid (∃O,Hv J W0 l Bc ((((((Al (Af L.s)++Am L L.lets.n)++Ag L L.crops.n)++Aa L L.reaches.n)++An L L.farms.n)++AV L i++Al (E7 L.rots i))++BB (A2 L i) (j+1)).length O w5):=yb ⟨K,by
               have Y:(BB (A2 L i) (j+1)).length=(BB (A2 L i) j).length+1:=by rw[show BB (A2 L i) (j+1)=BB (A2 L i) j++_ from Ai _ j,yn];rfl
               have e:((((((Al (Af L.s)++Am L L.lets.n)++Ag L L.crops.n)++Aa L L.reaches.n)++An L L.farms.n)++AV L i++Al (E7 L.rots i))++BB (A2 L i) (j+1)).length=((((((Al (Af L.s)++Am L L.lets.n)++Ag L L.crops.n)++Aa L L.reaches.n)++An L L.farms.n)++AV L i++Al (E7 L.rots i))++BB (A2 L i) j).length+1:=by simp only[yn,Y];omega
               rw[e];exact h3⟩
              clear h3 H
              go_wp2
              first
              |exact ⟨⟨j+1,by omega,by go_num,u⟩,by simp[intOf];omega⟩
              |(refine ⟨?_,by simp[intOf];omega⟩;(repeat apply @Exists.intro Value);exact ⟨⟨j+1,by omega,by go_num,u⟩,rfl⟩)
             ·have E:=yb t
              clear t
              go_wp2
              refine zv (zn rfl _ _ _) rfl ?_
              exact .inl ⟨⟨_,rfl⟩,.inr ⟨_,E.o⟩⟩
            ·have ah:j=(A2 L i).n:=by omega
             rw[ah] at a6
             have u:Hid (∃O,Hv J W0 l Bc (((((Al (Af L.s)++Am L L.lets.n)++Ag L L.crops.n)++Aa L L.reaches.n)++An L L.farms.n)++AV L (i+1)).length O wq):=yb (a6.o.elim fun K h3=>⟨K,by
              have Y:(AV L (i+1))=AV L i++(Al (E7 L.rots i)++BB (A2 L i) (A2 L i).n):=Ai _ i
              have e:(((((Al (Af L.s)++Am L L.lets.n)++Ag L L.crops.n)++Aa L L.reaches.n)++An L L.farms.n)++AV L (i+1)).length=((((((Al (Af L.s)++Am L L.lets.n)++Ag L L.crops.n)++Aa L L.reaches.n)++An L L.farms.n)++AV L i++Al (E7 L.rots i))++BB (A2 L i) (A2 L i).n).length:=by rw[Y];simp only[yI]
              rw[e];exact h3⟩)
             clear a6 ah d
             go_wp2
             first
             |exact ⟨⟨i+1,by omega,by go_num,u⟩,by simp[intOf];omega⟩
             |(refine ⟨?_,by simp[intOf];omega⟩;(repeat apply @Exists.intro Value);exact ⟨⟨i+1,by omega,by go_num,u⟩,rfl⟩)
          ·have y:i=L.rots.n:=by omega
           rw[y] at c
           have I:Hid (∃O,Hv J W0 l Bc ((((((Al (Af L.s)++Am L L.lets.n)++Ag L L.crops.n)++Aa L L.reaches.n)++An L L.farms.n)++AV L L.rots.n)++AG L 0).length O wr):=yb (by
            have:=c.o
            rw[show ((((((Al (Af L.s)++Am L L.lets.n)++Ag L L.crops.n)++Aa L L.reaches.n)++An L L.farms.n)++AV L L.rots.n)++AG L 0).length=(((((Al (Af L.s)++Am L L.lets.n)++Ag L L.crops.n)++Aa L L.reaches.n)++An L L.farms.n)++AV L L.rots.n).length by simp[AG]]
            exact this)
           clear c y
           have a:=f.o.rights
           unfold As.v at a
           clear f
           go_wp2_with fail
           clear d a
           go_loopw [191] (fun F wr=>∃i:Nat,i<=L.rights.n∧F=iV i∧Hid (∃O,Hv J W0 l Bc ((((((Al (Af L.s)++Am L L.lets.n)++Ag L L.crops.n)++Aa L L.reaches.n)++An L L.farms.n)++AV L L.rots.n)++AG L i).length O wr)) (fun F _=>L.rights.n - (intOf F).toNat)
           case atStart=>exact ⟨0,yH _,rfl,I⟩
           case round=>
            clear I
            obtain ⟨i,hi,rfl,c⟩:=hrel
            have f:=yb (c.o.elim fun O h=>x.o.hd _ _ _ h.j)
            have d:=f.o.box
            by_cases q:i < L.rights.n
            ·obtain ⟨b,o,Q,g⟩:=W.o.rights.get q
             have a:=f.o.rights
             unfold As.v at a
             rw[Q] at a
             have a0:(i:Int) < (L.rights.n:Int):=by omega
             have R:L.rights.n<=140737488355328:=W.o.rights.1
             have A:(fun i=>Al (JU L.rights i)) i=((#[pV b (o+i*37+7),pV b (o+i*37+13),pV b (o+i*37+19),pV b (o+i*37+25),pV b (o+i*37+31)]:Array Value).toList.map (fun p=>#[p,iV 0])):=by
              simp only[Al,JU,As.ptr,g,zu,zP]
             have HP:Hid (∃post,X=((((((Al (Af L.s)++Am L L.lets.n)++Ag L L.crops.n)++Aa L L.reaches.n)++An L L.farms.n)++AV L L.rots.n)++AG L i)++((#[pV b (o+i*37+7),pV b (o+i*37+13),pV b (o+i*37+19),pV b (o+i*37+25),pV b (o+i*37+31)]:Array Value).toList.map (fun p=>#[p,iV 0])++post)):=yb (by
              obtain ⟨post,C⟩:=Br (fun i=>Al (JU L.rights i)) q
              have D:AG L L.rights.n=AG L i++((#[pV b (o+i*37+7),pV b (o+i*37+13),pV b (o+i*37+19),pV b (o+i*37+25),pV b (o+i*37+31)]:Array Value).toList.map (fun p=>#[p,iV 0])++post):=C.trans (yC (fun z=>AG L i++(z++post)) A)
              refine ⟨(post++(Bh L L.duties.n)),?_⟩
              rw[HX.o]
              unfold BH
              rw[D]
              simp only[yI])
             clear A
             have U:=yb g
             clear g Q
             obtain ⟨O,m⟩:=c.o
             go_wp2_with fail
             have G:=yb (m.below x.o (yg _ _).drew)
             have a2:=yb (m.below x.o (((yg _ _).alloc (yf _) (.cells #[pV b (o+i*37+7),pV b (o+i*37+13),pV b (o+i*37+19),pV b (o+i*37+25),pV b (o+i*37+31)] 150)).drew))
             have M:=yb (x.o.hd _ _ _ G.o.j)
             have S:=yb (x.o.hd _ _ _ a2.o.j)
             have P:=M.o.box
             go_region_held2 (fun w'=>w'.cell? (aV Bs 0)=some (pV L.s 0)) (first|exact M.o.box|exact S.o.box|exact N.o.box)
              (first|(go_at_call 93;refine (Dc x.o hn (pre:=(((((Al (Af L.s)++Am L L.lets.n)++Ag L L.crops.n)++Aa L L.reaches.n)++An L L.farms.n)++AV L L.rots.n)++AG L i) G.o 0 _ 5 rfl _ HP.o (by decide) (by simp) _ rfl).mono ?_;rintro e w3 (⟨r,rfl,hr⟩|⟨V,rfl,C⟩);rotate_left;exact ⟨rfl,.inr ⟨V,rfl,C⟩⟩;have N:=yb (hr.elim (fun h=>h.2.elim fun O h=>x.o.hd _ _ _ h.j) (fun h=>h.2.elim fun O h=>x.o.hdx _ _ h));have H:=yb hr;clear hr))
             clear P d a m
             rcases H.o with ⟨rfl,K,h3⟩|⟨rfl,K,t⟩
             ·have u:Hid (∃O,Hv J W0 l Bc ((((((Al (Af L.s)++Am L L.lets.n)++Ag L L.crops.n)++Aa L L.reaches.n)++An L L.farms.n)++AV L L.rots.n)++AG L (i+1)).length O w3):=yb ⟨K,by
               have Y:(AG L (i+1)).length=(AG L i).length+5:=by rw[show AG L (i+1)=AG L i++_ from Ai _ i,yn];rfl
               have e:((((((Al (Af L.s)++Am L L.lets.n)++Ag L L.crops.n)++Aa L L.reaches.n)++An L L.farms.n)++AV L L.rots.n)++AG L (i+1)).length=((((((Al (Af L.s)++Am L L.lets.n)++Ag L L.crops.n)++Aa L L.reaches.n)++An L L.farms.n)++AV L L.rots.n)++AG L i).length+5:=by simp only[yn,Y];omega
               rw[e];exact h3⟩
              clear h3 H
              go_wp2
              first
              |exact ⟨⟨i+1,by omega,by go_num,u⟩,by simp[intOf];omega⟩
              |(refine ⟨?_,by simp[intOf];omega⟩;(repeat apply @Exists.intro Value);exact ⟨⟨i+1,by omega,by go_num,u⟩,rfl⟩)
             ·have E:=yb t
              clear t
              go_wp2
              refine zv (zn rfl _ _ _) rfl ?_
              exact .inl ⟨⟨_,rfl⟩,.inr ⟨_,E.o⟩⟩
            ·have y:i=L.rights.n:=by omega
             rw[y] at c
             have I:Hid (∃O,Hv J W0 l Bc (((((((Al (Af L.s)++Am L L.lets.n)++Ag L L.crops.n)++Aa L L.reaches.n)++An L L.farms.n)++AV L L.rots.n)++AG L L.rights.n)++Bh L 0).length O wr):=yb (by
              have:=c.o
              rw[show (((((((Al (Af L.s)++Am L L.lets.n)++Ag L L.crops.n)++Aa L L.reaches.n)++An L L.farms.n)++AV L L.rots.n)++AG L L.rights.n)++Bh L 0).length=((((((Al (Af L.s)++Am L L.lets.n)++Ag L L.crops.n)++Aa L L.reaches.n)++An L L.farms.n)++AV L L.rots.n)++AG L L.rights.n).length by simp[Bh]]
              exact this)
             clear c y
             have a:=f.o.duties
             unfold As.v at a
             clear f
             go_wp2_with fail
             clear d a
             go_loopw [225] (fun F wr=>∃i:Nat,i<=L.duties.n∧F=iV i∧Hid (∃O,Hv J W0 l Bc (((((((Al (Af L.s)++Am L L.lets.n)++Ag L L.crops.n)++Aa L L.reaches.n)++An L L.farms.n)++AV L L.rots.n)++AG L L.rights.n)++Bh L i).length O wr)) (fun F _=>L.duties.n - (intOf F).toNat)
             case atStart=>exact ⟨0,yH _,rfl,I⟩
             case round=>
              clear I
              obtain ⟨i,hi,rfl,c⟩:=hrel
              have f:=yb (c.o.elim fun O h=>x.o.hd _ _ _ h.j)
              have d:=f.o.box
              by_cases q:i < L.duties.n
              ·obtain ⟨b,o,Q,g⟩:=W.o.duties.get q
               have a:=f.o.duties
               unfold As.v at a
               rw[Q] at a
               have a0:(i:Int) < (L.duties.n:Int):=by omega
               have R:L.duties.n<=140737488355328:=W.o.duties.1
               have A:(fun i=>Al [L.duties.ptr 11 i 5]) i=((#[pV b (o+i*11+5)]:Array Value).toList.map (fun p=>#[p,iV 0])):=by
                simp only[Al,As.ptr,g,zu,zP]
               have HP:Hid (∃post,X=(((((((Al (Af L.s)++Am L L.lets.n)++Ag L L.crops.n)++Aa L L.reaches.n)++An L L.farms.n)++AV L L.rots.n)++AG L L.rights.n)++Bh L i)++((#[pV b (o+i*11+5)]:Array Value).toList.map (fun p=>#[p,iV 0])++post)):=yb (by
                obtain ⟨post,C⟩:=Br (fun i=>Al [L.duties.ptr 11 i 5]) q
                have D:Bh L L.duties.n=Bh L i++((#[pV b (o+i*11+5)]:Array Value).toList.map (fun p=>#[p,iV 0])++post):=C.trans (yC (fun z=>Bh L i++(z++post)) A)
                refine ⟨post,?_⟩
                rw[HX.o]
                unfold BH
                rw[D]
                simp only[yI])
               clear A
               have U:=yb g
               clear g Q
               obtain ⟨O,m⟩:=c.o
               have T:=yb m
               clear m
               go_wp2_with fail
               refine (Dc x.o hn (pre:=((((((Al (Af L.s)++Am L L.lets.n)++Ag L L.crops.n)++Aa L L.reaches.n)++An L L.farms.n)++AV L L.rots.n)++AG L L.rights.n)++Bh L i) T.o 0 #[pV b (o+i*11+5)] 1 rfl _ HP.o (by decide) (by simp) _ rfl).mono ?_
               rintro e w3 (⟨r,rfl,hr⟩|⟨V,rfl,C⟩)
               rotate_left
               ·exact ⟨rfl,.inr ⟨V,rfl,C⟩⟩
               have H:=yb hr
               clear hr d a
               rcases H.o with ⟨rfl,K,h3⟩|⟨rfl,K,t⟩
               ·have u:Hid (∃O,Hv J W0 l Bc (((((((Al (Af L.s)++Am L L.lets.n)++Ag L L.crops.n)++Aa L L.reaches.n)++An L L.farms.n)++AV L L.rots.n)++AG L L.rights.n)++Bh L (i+1)).length O w3):=yb ⟨K,by
                 have Y:(Bh L (i+1)).length=(Bh L i).length+1:=by rw[show Bh L (i+1)=Bh L i++_ from Ai _ i,yn];rfl
                 have e:(((((((Al (Af L.s)++Am L L.lets.n)++Ag L L.crops.n)++Aa L L.reaches.n)++An L L.farms.n)++AV L L.rots.n)++AG L L.rights.n)++Bh L (i+1)).length=(((((((Al (Af L.s)++Am L L.lets.n)++Ag L L.crops.n)++Aa L L.reaches.n)++An L L.farms.n)++AV L L.rots.n)++AG L L.rights.n)++Bh L i).length+1:=by simp only[yn,Y];omega
                 rw[e];exact h3⟩
                clear h3 H
                go_wp2
                first
                |exact ⟨⟨i+1,by omega,by go_num,u⟩,by simp[intOf];omega⟩
                |(refine ⟨?_,by simp[intOf];omega⟩;(repeat apply @Exists.intro Value);exact ⟨⟨i+1,by omega,by go_num,u⟩,rfl⟩)
               ·have E:=yb t
                clear t
                go_wp2
                refine zv (zn rfl _ _ _) rfl ?_
                exact .inl ⟨⟨_,rfl⟩,.inr ⟨_,E.o⟩⟩
              ·have y:i=L.duties.n:=by omega
               rw[y] at c
               have I:Hid (∃O,J X.length O wr):=yb (c.o.elim fun O h=>⟨O,by
                have:=h.j
                rw[show (((((((Al (Af L.s)++Am L L.lets.n)++Ag L L.crops.n)++Aa L L.reaches.n)++An L L.farms.n)++AV L L.rots.n)++AG L L.rights.n)++Bh L L.duties.n).length=X.length by rw[HX.o];unfold BH;simp] at this
                exact this⟩)
               clear c y f d
               go_wp2
               go_end0
               exact .inl ⟨⟨_,rfl⟩,.inl I.o⟩
end Go.Proofs.YtjofgpfocadomaaGreatDoor
