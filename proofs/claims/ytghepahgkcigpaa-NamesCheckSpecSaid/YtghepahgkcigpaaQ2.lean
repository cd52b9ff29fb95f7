/- The iterator over a source's expressions: the walk. -/
import Derived.Test.YtghepahgkcigpaaQ0
import Derived.Deep.RegionHeld2
import Derived.StillTailTactics
set_option maxRecDepth 100000
set_option maxHeartbeats 16000000
set_option linter.unusedSimpArgs false
namespace Go.Proofs.Ytghepahgkcigpaa
open Go.RowKit
def VW(J:Nat->NP->World->Prop)(Jx:NP->World->Prop)(Jp:List PanicEntry->NP->World->Prop)(k:Nat)(e:Ending)(W':World):Prop:=
 ((∃v,e=.returned v)∧((∃O,J k O W')∨∃O,Jx O W'))∨∃a,e=.panicked a∧∃O,Jp a O W'
theorem JA.start{n l:Nat}{P:Program}{xs:List (Array Value)}{Hd:World->Prop}{J:Nat->NP->World->Prop}{Jx:NP->World->Prop}{Jp:List PanicEntry->NP->World->Prop}{W0:World}(hc:X4 n l P xs Hd J Jx Jp W0)(h0:J 0 (fun _=>False) W0)(t:TypeId):
  JA J W0 l W0.heap.size 0 (fun b=>False∨(W0.heap.size<=b∧b < (W0.alloc (.cells #[.func (.yield l) #[] #[]] t)).heap.size)) (W0.alloc (.cells #[.func (.yield l) #[] #[]] t)):=
 ⟨Fu hc.stays h0 ((yc _ _).alloc (ye _) _),.inr ⟨ye _,by simp⟩,by
  have:(W0.alloc (.cells #[.func (.yield l) #[] #[]] t)).heap[W0.heap.size]?=some (.cells #[.func (.yield l) #[] #[]] t (0,0)):=World.alloc_heap_new _ _
  simp only[World.cell?,this];simp,by simp,fun b hb=>by rcases hb with hb|hb;exact hb.elim;exact hb⟩
theorem QH(n:Nat)(hn:1<=n)(l Bs:Nat)(L:BL)(hL:L.Ok)(J:Nat->NP->World->Prop)(Jx:NP->World->Prop)(Jp:List PanicEntry->NP->World->Prop)(W0:World)
 (hc:X4 (n - 1) l Try.prog (Cw L) (JW L Bs) J Jx Jp W0)(h0:J 0 (fun _=>False) W0):
  Calls Try.prog 89 #[.func (.yield l) #[] #[],.pointer (some ⟨Bs,0,none⟩)] W0 (VW J Jx Jp (Cw L).length):=by
 have an:∀(fn:Fn) (first cap:Array Value) (w:World),(Instr.makeFunc fn first cap).run Try.prog w=.ok (.func fn first cap) w:=fun _ _ _ _=>rfl
 have x:=ya hc
 have Y:=ya hL
 have HI:=ya (JA.start hc h0 149)
 obtain ⟨X,hX⟩:∃X,X=Cw L:=⟨_,rfl⟩
 have HX:=ya hX
 rw[<-hX] at x ⊢
 clear hc hL h0 hX
 go_enter Try.func89,Try.ntmps89
 go_wp2_with fail
 generalize hw:W0.alloc (.cells #[.func (.yield l) #[] #[]] 149)=w1 at HI ⊢
 clear hw
 generalize W0.heap.size=Bc at HI ⊢
 have HH:=ya (x.o.hd _ _ _ HI.o.j)
 have I:=ya (HI.o.below x.o (yc _ _).drew)
 have K:=ya (x.o.hd _ _ _ I.o.j)
 have U:=ya (x.o.hd _ _ _ (HI.o.below x.o (((yc _ _).alloc (ye _) (.cells #[pV L.s 1,pV L.s 7,pV L.s 13] 134)).drew)).j)
 have ad:Hid (∃post,X=[]++((#[pV L.s 1,pV L.s 7,pV L.s 13]:Array Value).toList.map (fun p=>#[p,iV 0])++post)):=ya ⟨_,by rw[HX.o];rfl⟩
 go_region_held2 (fun w'=>w'.cell? (aV Bs 0)=some (pV L.s 0)) (first|exact K.o.box|exact U.o.box|exact M.o.box)
  (first|(go_at_call 90;refine (Eg x.o hn (pre:=[]) I.o 0 _ 3 rfl _ ad.o (by decide) (by simp) _ rfl).mono ?_;rintro e w2 (⟨r,rfl,F⟩|⟨W,rfl,C⟩);rotate_left;exact ⟨rfl,.inr ⟨W,rfl,C⟩⟩;have M:=ya (F.elim (fun h=>h.2.elim fun O h=>x.o.hd _ _ _ h.j) (fun h=>h.2.elim fun O h=>x.o.hdx _ _ h));have G:=ya F;clear F))
 rcases G.o with ⟨rfl,O2,ac⟩|⟨rfl,O2,ae⟩
 case inr=>
  have aj:=ya ae
  clear ae G M
  go_wp2
  refine xg (zI rfl _ _ _) rfl ?_
  exact .inl ⟨⟨_,rfl⟩,.inr ⟨_,aj.o⟩⟩
 have N:Hid (∃O,JA J W0 l Bc (AL (Ax L.s)++AM L 0).length O w2):=ya ⟨O2,ac⟩
 clear ac G I K U ad HI HH
 have d:=M.o.box
 have a:=M.o.lets
 unfold AF.v at a
 go_wp2_with fail
 clear M d a
 go_loopw [34] (fun H wr=>∃i:Nat,i<=L.lets.n∧H=iV i∧Hid (∃O,JA J W0 l Bc (AL (Ax L.s)++AM L i).length O wr)) (fun H _=>L.lets.n - (intOf H).toNat)
 case atStart=>exact ⟨0,yv _,rfl,N⟩
 case round=>
  clear N
  obtain ⟨i,hi,rfl,c⟩:=hrel
  have f:=ya (c.o.elim fun O h=>x.o.hd _ _ _ h.j)
  have d:=f.o.box
  by_cases q:i < L.lets.n
  ·obtain ⟨b,o,S,g⟩:=Y.o.lets.get q
   have a:=f.o.lets
   unfold AF.v at a
   rw[S] at a
   have a0:(i:Int) < (L.lets.n:Int):=by omega
   have R:L.lets.n<=140737488355328:=Y.o.lets.1
   have A:(fun i=> [#[L.lets.ptr 7 i 1,iV (1+(i:Int))]]) i=((#[pV b (o+i*7+1)]:Array Value).toList.map (fun p=>#[p,iV (1+(i:Int))])):=by
    simp only[AF.ptr,g,zG,xh]
   have HP:Hid (∃post,X=(AL (Ax L.s)++AM L i)++((#[pV b (o+i*7+1)]:Array Value).toList.map (fun p=>#[p,iV (1+(i:Int))])++post)):=ya (by
    obtain ⟨post,C⟩:=Cf (fun i=> [#[L.lets.ptr 7 i 1,iV (1+(i:Int))]]) q
    have E:AM L L.lets.n=AM L i++((#[pV b (o+i*7+1)]:Array Value).toList.map (fun p=>#[p,iV (1+(i:Int))])++post):=C.trans (yz (fun z=>AM L i++(z++post)) A)
    refine ⟨(post++((Ay L L.crops.n++(Am L L.reaches.n++(AN L L.farms.n++(BG L L.rots.n++(Bm L L.rights.n++C8 L L.duties.n))))))),?_⟩
    rw[HX.o]
    unfold Cw
    rw[E]
    simp only[yg])
   clear A
   have V:=ya g
   clear g S
   obtain ⟨O,m⟩:=c.o
   have T:=ya m
   clear m
   go_wp2_with fail
   refine (Eg x.o hn (pre:=AL (Ax L.s)++AM L i) T.o (1+(i:Int)) #[pV b (o+i*7+1)] 1 rfl _ HP.o (by decide) (by simp) _ rfl).mono ?_
   rintro e w3 (⟨r,rfl,F⟩|⟨W,rfl,C⟩)
   rotate_left
   ·exact ⟨rfl,.inr ⟨W,rfl,C⟩⟩
   have G:=ya F
   clear F d a
   rcases G.o with ⟨rfl,P,h3⟩|⟨rfl,P,t⟩
   ·have u:Hid (∃O,JA J W0 l Bc (AL (Ax L.s)++AM L (i+1)).length O w3):=ya ⟨P,by
     have e3:(AM L (i+1)).length=(AM L i).length+1:=by rw[show AM L (i+1)=AM L i++_ from Az _ i,yi];rfl
     have e:(AL (Ax L.s)++AM L (i+1)).length=(AL (Ax L.s)++AM L i).length+1:=by simp only[yi,e3];omega
     rw[e];exact h3⟩
    clear h3 G
    go_wp2
    first
    |exact ⟨⟨i+1,by omega,by go_num,u⟩,by simp[intOf];omega⟩
    |(refine ⟨?_,by simp[intOf];omega⟩;(repeat apply @Exists.intro Value);exact ⟨⟨i+1,by omega,by go_num,u⟩,rfl⟩)
   ·have D:=ya t
    clear t
    go_wp2
    refine xg (zI rfl _ _ _) rfl ?_
    exact .inl ⟨⟨_,rfl⟩,.inr ⟨_,D.o⟩⟩
  ·have y:i=L.lets.n:=by omega
   rw[y] at c
   have N:Hid (∃O,JA J W0 l Bc ((AL (Ax L.s)++AM L L.lets.n)++Ay L 0).length O wr):=ya (by
    have:=c.o
    rw[show ((AL (Ax L.s)++AM L L.lets.n)++Ay L 0).length=(AL (Ax L.s)++AM L L.lets.n).length by simp[Ay]]
    exact this)
   clear c y
   have a:=f.o.crops
   unfold AF.v at a
   clear f
   go_wp2_with fail
   clear d a
   go_loopw [56] (fun H wr=>∃i:Nat,i<=L.crops.n∧H=iV i∧Hid (∃O,JA J W0 l Bc ((AL (Ax L.s)++AM L L.lets.n)++Ay L i).length O wr)) (fun H _=>L.crops.n - (intOf H).toNat)
   case atStart=>exact ⟨0,yv _,rfl,N⟩
   case round=>
    clear N
    obtain ⟨i,hi,rfl,c⟩:=hrel
    have f:=ya (c.o.elim fun O h=>x.o.hd _ _ _ h.j)
    have d:=f.o.box
    by_cases q:i < L.crops.n
    ·obtain ⟨b,o,S,g⟩:=Y.o.crops.get q
     have a:=f.o.crops
     unfold AF.v at a
     rw[S] at a
     have a0:(i:Int) < (L.crops.n:Int):=by omega
     have R:L.crops.n<=140737488355328:=Y.o.crops.1
     have A:(fun i=>AL [L.crops.ptr 7 i 1]) i=((#[pV b (o+i*7+1)]:Array Value).toList.map (fun p=>#[p,iV 0])):=by
      simp only[AL,AF.ptr,g,zG,xh]
     have HP:Hid (∃post,X=((AL (Ax L.s)++AM L L.lets.n)++Ay L i)++((#[pV b (o+i*7+1)]:Array Value).toList.map (fun p=>#[p,iV 0])++post)):=ya (by
      obtain ⟨post,C⟩:=Cf (fun i=>AL [L.crops.ptr 7 i 1]) q
      have E:Ay L L.crops.n=Ay L i++((#[pV b (o+i*7+1)]:Array Value).toList.map (fun p=>#[p,iV 0])++post):=C.trans (yz (fun z=>Ay L i++(z++post)) A)
      refine ⟨(post++((Am L L.reaches.n++(AN L L.farms.n++(BG L L.rots.n++(Bm L L.rights.n++C8 L L.duties.n)))))),?_⟩
      rw[HX.o]
      unfold Cw
      rw[E]
      simp only[yg])
     clear A
     have V:=ya g
     clear g S
     obtain ⟨O,m⟩:=c.o
     have T:=ya m
     clear m
     go_wp2_with fail
     refine (Eg x.o hn (pre:=(AL (Ax L.s)++AM L L.lets.n)++Ay L i) T.o 0 #[pV b (o+i*7+1)] 1 rfl _ HP.o (by decide) (by simp) _ rfl).mono ?_
     rintro e w3 (⟨r,rfl,F⟩|⟨W,rfl,C⟩)
     rotate_left
     ·exact ⟨rfl,.inr ⟨W,rfl,C⟩⟩
     have G:=ya F
     clear F d a
     rcases G.o with ⟨rfl,P,h3⟩|⟨rfl,P,t⟩
     ·have u:Hid (∃O,JA J W0 l Bc ((AL (Ax L.s)++AM L L.lets.n)++Ay L (i+1)).length O w3):=ya ⟨P,by
       have e3:(Ay L (i+1)).length=(Ay L i).length+1:=by rw[show Ay L (i+1)=Ay L i++_ from Az _ i,yi];rfl
       have e:((AL (Ax L.s)++AM L L.lets.n)++Ay L (i+1)).length=((AL (Ax L.s)++AM L L.lets.n)++Ay L i).length+1:=by simp only[yi,e3];omega
       rw[e];exact h3⟩
      clear h3 G
      go_wp2
      first
      |exact ⟨⟨i+1,by omega,by go_num,u⟩,by simp[intOf];omega⟩
      |(refine ⟨?_,by simp[intOf];omega⟩;(repeat apply @Exists.intro Value);exact ⟨⟨i+1,by omega,by go_num,u⟩,rfl⟩)
     ·have D:=ya t
      clear t
      go_wp2
      refine xg (zI rfl _ _ _) rfl ?_
      exact .inl ⟨⟨_,rfl⟩,.inr ⟨_,D.o⟩⟩
    ·have y:i=L.crops.n:=by omega
     rw[y] at c
     have N:Hid (∃O,JA J W0 l Bc (((AL (Ax L.s)++AM L L.lets.n)++Ay L L.crops.n)++Am L 0).length O wr):=ya (by
      have:=c.o
      rw[show (((AL (Ax L.s)++AM L L.lets.n)++Ay L L.crops.n)++Am L 0).length=((AL (Ax L.s)++AM L L.lets.n)++Ay L L.crops.n).length by simp[Am]]
      exact this)
     clear c y
     have a:=f.o.reaches
     unfold AF.v at a
     clear f
     go_wp2_with fail
     clear d a
     go_loopw [76] (fun H wr=>∃i:Nat,i<=L.reaches.n∧H=iV i∧Hid (∃O,JA J W0 l Bc (((AL (Ax L.s)++AM L L.lets.n)++Ay L L.crops.n)++Am L i).length O wr)) (fun H _=>L.reaches.n - (intOf H).toNat)
     case atStart=>exact ⟨0,yv _,rfl,N⟩
     case round=>
      clear N
      obtain ⟨i,hi,rfl,c⟩:=hrel
      have f:=ya (c.o.elim fun O h=>x.o.hd _ _ _ h.j)
      have d:=f.o.box
      by_cases q:i < L.reaches.n
      ·obtain ⟨b,o,S,g⟩:=Y.o.reaches.get q
       have a:=f.o.reaches
       unfold AF.v at a
       rw[S] at a
       have a0:(i:Int) < (L.reaches.n:Int):=by omega
       have R:L.reaches.n<=140737488355328:=Y.o.reaches.1
       have A:(fun i=>AL (Lo L.reaches i)) i=((#[pV b (o+i*51+3),pV b (o+i*51+9),pV b (o+i*51+15),pV b (o+i*51+21),pV b (o+i*51+27),pV b (o+i*51+33),pV b (o+i*51+39),pV b (o+i*51+45)]:Array Value).toList.map (fun p=>#[p,iV 0])):=by
        simp only[AL,Lo,AF.ptr,g,zG,xh]
       have HP:Hid (∃post,X=(((AL (Ax L.s)++AM L L.lets.n)++Ay L L.crops.n)++Am L i)++((#[pV b (o+i*51+3),pV b (o+i*51+9),pV b (o+i*51+15),pV b (o+i*51+21),pV b (o+i*51+27),pV b (o+i*51+33),pV b (o+i*51+39),pV b (o+i*51+45)]:Array Value).toList.map (fun p=>#[p,iV 0])++post)):=ya (by
        obtain ⟨post,C⟩:=Cf (fun i=>AL (Lo L.reaches i)) q
        have E:Am L L.reaches.n=Am L i++((#[pV b (o+i*51+3),pV b (o+i*51+9),pV b (o+i*51+15),pV b (o+i*51+21),pV b (o+i*51+27),pV b (o+i*51+33),pV b (o+i*51+39),pV b (o+i*51+45)]:Array Value).toList.map (fun p=>#[p,iV 0])++post):=C.trans (yz (fun z=>Am L i++(z++post)) A)
        refine ⟨(post++((AN L L.farms.n++(BG L L.rots.n++(Bm L L.rights.n++C8 L L.duties.n))))),?_⟩
        rw[HX.o]
        unfold Cw
        rw[E]
        simp only[yg])
       clear A
       have V:=ya g
       clear g S
       obtain ⟨O,m⟩:=c.o
       go_wp2_with fail
       have I:=ya (m.below x.o (yc _ _).drew)
       have a1:=ya (m.below x.o (((yc _ _).alloc (ye _) (.cells #[pV b (o+i*51+3),pV b (o+i*51+9),pV b (o+i*51+15),pV b (o+i*51+21),pV b (o+i*51+27),pV b (o+i*51+33),pV b (o+i*51+39),pV b (o+i*51+45)] 134)).drew))
       have K:=ya (x.o.hd _ _ _ I.o.j)
       have U:=ya (x.o.hd _ _ _ a1.o.j)
       have Q:=K.o.box
       go_region_held2 (fun w'=>w'.cell? (aV Bs 0)=some (pV L.s 0)) (first|exact K.o.box|exact U.o.box|exact M.o.box)
        (first|(go_at_call 90;refine (Eg x.o hn (pre:=((AL (Ax L.s)++AM L L.lets.n)++Ay L L.crops.n)++Am L i) I.o 0 _ 8 rfl _ HP.o (by decide) (by simp) _ rfl).mono ?_;rintro e w3 (⟨r,rfl,F⟩|⟨W,rfl,C⟩);rotate_left;exact ⟨rfl,.inr ⟨W,rfl,C⟩⟩;have M:=ya (F.elim (fun h=>h.2.elim fun O h=>x.o.hd _ _ _ h.j) (fun h=>h.2.elim fun O h=>x.o.hdx _ _ h));have G:=ya F;clear F))
       clear Q d a m
       rcases G.o with ⟨rfl,P,h3⟩|⟨rfl,P,t⟩
       ·have u:Hid (∃O,JA J W0 l Bc (((AL (Ax L.s)++AM L L.lets.n)++Ay L L.crops.n)++Am L (i+1)).length O w3):=ya ⟨P,by
         have e3:(Am L (i+1)).length=(Am L i).length+8:=by rw[show Am L (i+1)=Am L i++_ from Az _ i,yi];rfl
         have e:(((AL (Ax L.s)++AM L L.lets.n)++Ay L L.crops.n)++Am L (i+1)).length=(((AL (Ax L.s)++AM L L.lets.n)++Ay L L.crops.n)++Am L i).length+8:=by simp only[yi,e3];omega
         rw[e];exact h3⟩
        clear h3 G
        go_wp2
        first
        |exact ⟨⟨i+1,by omega,by go_num,u⟩,by simp[intOf];omega⟩
        |(refine ⟨?_,by simp[intOf];omega⟩;(repeat apply @Exists.intro Value);exact ⟨⟨i+1,by omega,by go_num,u⟩,rfl⟩)
       ·have D:=ya t
        clear t
        go_wp2
        refine xg (zI rfl _ _ _) rfl ?_
        exact .inl ⟨⟨_,rfl⟩,.inr ⟨_,D.o⟩⟩
      ·have y:i=L.reaches.n:=by omega
       rw[y] at c
       have N:Hid (∃O,JA J W0 l Bc ((((AL (Ax L.s)++AM L L.lets.n)++Ay L L.crops.n)++Am L L.reaches.n)++AN L 0).length O wr):=ya (by
        have:=c.o
        rw[show ((((AL (Ax L.s)++AM L L.lets.n)++Ay L L.crops.n)++Am L L.reaches.n)++AN L 0).length=(((AL (Ax L.s)++AM L L.lets.n)++Ay L L.crops.n)++Am L L.reaches.n).length by simp[AN]]
        exact this)
       clear c y
       have a:=f.o.farms
       unfold AF.v at a
       clear f
       go_wp2_with fail
       clear d a
       go_loopw [123] (fun H wr=>∃i:Nat,i<=L.farms.n∧H=iV i∧Hid (∃O,JA J W0 l Bc ((((AL (Ax L.s)++AM L L.lets.n)++Ay L L.crops.n)++Am L L.reaches.n)++AN L i).length O wr)) (fun H _=>L.farms.n - (intOf H).toNat)
       case atStart=>exact ⟨0,yv _,rfl,N⟩
       case round=>
        clear N
        obtain ⟨i,hi,rfl,c⟩:=hrel
        have f:=ya (c.o.elim fun O h=>x.o.hd _ _ _ h.j)
        have d:=f.o.box
        by_cases q:i < L.farms.n
        ·obtain ⟨b,o,S,g⟩:=Y.o.farms.get q
         have a:=f.o.farms
         unfold AF.v at a
         rw[S] at a
         have a0:(i:Int) < (L.farms.n:Int):=by omega
         have R:L.farms.n<=140737488355328:=Y.o.farms.1
         have A:(fun i=>AL [L.farms.ptr 12 i 4]) i=((#[pV b (o+i*12+4)]:Array Value).toList.map (fun p=>#[p,iV 0])):=by
          simp only[AL,AF.ptr,g,zG,xh]
         have HP:Hid (∃post,X=((((AL (Ax L.s)++AM L L.lets.n)++Ay L L.crops.n)++Am L L.reaches.n)++AN L i)++((#[pV b (o+i*12+4)]:Array Value).toList.map (fun p=>#[p,iV 0])++post)):=ya (by
          obtain ⟨post,C⟩:=Cf (fun i=>AL [L.farms.ptr 12 i 4]) q
          have E:AN L L.farms.n=AN L i++((#[pV b (o+i*12+4)]:Array Value).toList.map (fun p=>#[p,iV 0])++post):=C.trans (yz (fun z=>AN L i++(z++post)) A)
          refine ⟨(post++((BG L L.rots.n++(Bm L L.rights.n++C8 L L.duties.n)))),?_⟩
          rw[HX.o]
          unfold Cw
          rw[E]
          simp only[yg])
         clear A
         have V:=ya g
         clear g S
         obtain ⟨O,m⟩:=c.o
         have T:=ya m
         clear m
         go_wp2_with fail
         refine (Eg x.o hn (pre:=(((AL (Ax L.s)++AM L L.lets.n)++Ay L L.crops.n)++Am L L.reaches.n)++AN L i) T.o 0 #[pV b (o+i*12+4)] 1 rfl _ HP.o (by decide) (by simp) _ rfl).mono ?_
         rintro e w3 (⟨r,rfl,F⟩|⟨W,rfl,C⟩)
         rotate_left
         ·exact ⟨rfl,.inr ⟨W,rfl,C⟩⟩
         have G:=ya F
         clear F d a
         rcases G.o with ⟨rfl,P,h3⟩|⟨rfl,P,t⟩
         ·have u:Hid (∃O,JA J W0 l Bc ((((AL (Ax L.s)++AM L L.lets.n)++Ay L L.crops.n)++Am L L.reaches.n)++AN L (i+1)).length O w3):=ya ⟨P,by
           have e3:(AN L (i+1)).length=(AN L i).length+1:=by rw[show AN L (i+1)=AN L i++_ from Az _ i,yi];rfl
           have e:((((AL (Ax L.s)++AM L L.lets.n)++Ay L L.crops.n)++Am L L.reaches.n)++AN L (i+1)).length=((((AL (Ax L.s)++AM L L.lets.n)++Ay L L.crops.n)++Am L L.reaches.n)++AN L i).length+1:=by simp only[yi,e3];omega
           rw[e];exact h3⟩
          clear h3 G
          go_wp2
          first
          |exact ⟨⟨i+1,by omega,by go_num,u⟩,by simp[intOf];omega⟩
          |(refine ⟨?_,by simp[intOf];omega⟩;(repeat apply @Exists.intro Value);exact ⟨⟨i+1,by omega,by go_num,u⟩,rfl⟩)
         ·have D:=ya t
          clear t
          go_wp2
          refine xg (zI rfl _ _ _) rfl ?_
          exact .inl ⟨⟨_,rfl⟩,.inr ⟨_,D.o⟩⟩
        ·have y:i=L.farms.n:=by omega
         rw[y] at c
         have N:Hid (∃O,JA J W0 l Bc (((((AL (Ax L.s)++AM L L.lets.n)++Ay L L.crops.n)++Am L L.reaches.n)++AN L L.farms.n)++BG L 0).length O wr):=ya (by
          have:=c.o
          rw[show (((((AL (Ax L.s)++AM L L.lets.n)++Ay L L.crops.n)++Am L L.reaches.n)++AN L L.farms.n)++BG L 0).length=((((AL (Ax L.s)++AM L L.lets.n)++Ay L L.crops.n)++Am L L.reaches.n)++AN L L.farms.n).length by simp[BG]]
          exact this)
         clear c y
         have a:=f.o.rots
         unfold AF.v at a
         clear f
         go_wp2_with fail
         clear d a
         go_loopw [143] (fun H wr=>∃i:Nat,i<=L.rots.n∧H=iV i∧Hid (∃O,JA J W0 l Bc (((((AL (Ax L.s)++AM L L.lets.n)++Ay L L.crops.n)++Am L L.reaches.n)++AN L L.farms.n)++BG L i).length O wr)) (fun H _=>L.rots.n - (intOf H).toNat)
         case atStart=>exact ⟨0,yv _,rfl,N⟩
         case round=>
          clear N
          obtain ⟨i,hi,rfl,c⟩:=hrel
          have f:=ya (c.o.elim fun O h=>x.o.hd _ _ _ h.j)
          have d:=f.o.box
          by_cases q:i < L.rots.n
          ·obtain ⟨b,o,S,g⟩:=Y.o.rots.get q
           have a:=f.o.rots
           unfold AF.v at a
           rw[S] at a
           have a0:(i:Int) < (L.rots.n:Int):=by omega
           have R:L.rots.n<=140737488355328:=Y.o.rots.1
           have A:(fun i=>AL (F5 L.rots i)++Cq (A5 L i) (A5 L i).n) i=((#[pV b (o+i*23+4),pV b (o+i*23+10),pV b (o+i*23+16)]:Array Value).toList.map (fun p=>#[p,iV 0])++Cq (A5 L i) (A5 L i).n):=by
            simp only[AL,F5,AF.ptr,g,zG,xh]
           have HP:Hid (∃post,X=(((((AL (Ax L.s)++AM L L.lets.n)++Ay L L.crops.n)++Am L L.reaches.n)++AN L L.farms.n)++BG L i)++((#[pV b (o+i*23+4),pV b (o+i*23+10),pV b (o+i*23+16)]:Array Value).toList.map (fun p=>#[p,iV 0])++post)):=ya (by
            obtain ⟨post,C⟩:=Cf (fun i=>AL (F5 L.rots i)++Cq (A5 L i) (A5 L i).n) q
            have E:BG L L.rots.n=BG L i++((#[pV b (o+i*23+4),pV b (o+i*23+10),pV b (o+i*23+16)]:Array Value).toList.map (fun p=>#[p,iV 0])++Cq (A5 L i) (A5 L i).n++post):=C.trans (yz (fun z=>BG L i++(z++post)) A)
            refine ⟨Cq (A5 L i) (A5 L i).n++(post++((Bm L L.rights.n++C8 L L.duties.n))),?_⟩
            rw[HX.o]
            unfold Cw
            rw[E]
            simp only[yg])
           clear A
           have V:=ya g
           clear g S
           obtain ⟨O,m⟩:=c.o
           go_wp2_with fail
           have I:=ya (m.below x.o (yc _ _).drew)
           have a1:=ya (m.below x.o (((yc _ _).alloc (ye _) (.cells #[pV b (o+i*23+4),pV b (o+i*23+10),pV b (o+i*23+16)] 134)).drew))
           have K:=ya (x.o.hd _ _ _ I.o.j)
           have U:=ya (x.o.hd _ _ _ a1.o.j)
           have Q:=K.o.box
           go_region_held2 (fun w'=>w'.cell? (aV Bs 0)=some (pV L.s 0)) (first|exact K.o.box|exact U.o.box|exact M.o.box)
            (first|(go_at_call 90;refine (Eg x.o hn (pre:=((((AL (Ax L.s)++AM L L.lets.n)++Ay L L.crops.n)++Am L L.reaches.n)++AN L L.farms.n)++BG L i) I.o 0 _ 3 rfl _ HP.o (by decide) (by simp) _ rfl).mono ?_;rintro e w3 (⟨r,rfl,F⟩|⟨W,rfl,C⟩);rotate_left;exact ⟨rfl,.inr ⟨W,rfl,C⟩⟩;have M:=ya (F.elim (fun h=>h.2.elim fun O h=>x.o.hd _ _ _ h.j) (fun h=>h.2.elim fun O h=>x.o.hdx _ _ h));have G:=ya F;clear F))
           clear Q d a m
           rcases G.o with ⟨rfl,P,h3⟩|⟨rfl,P,t⟩
           case inr=>
            have D:=ya t
            clear t
            go_wp2
            refine xg (zI rfl _ _ _) rfl ?_
            exact .inl ⟨⟨_,rfl⟩,.inr ⟨_,D.o⟩⟩
           have N:Hid (∃O,JA J W0 l Bc ((((((AL (Ax L.s)++AM L L.lets.n)++Ay L L.crops.n)++Am L L.reaches.n)++AN L L.farms.n)++BG L i++AL (F5 L.rots i))++Cq (A5 L i) 0).length O w3):=ya ⟨P,by
            have e:((((((AL (Ax L.s)++AM L L.lets.n)++Ay L L.crops.n)++Am L L.reaches.n)++AN L L.farms.n)++BG L i++AL (F5 L.rots i))++Cq (A5 L i) 0).length=(((((AL (Ax L.s)++AM L L.lets.n)++Ay L L.crops.n)++Am L L.reaches.n)++AN L L.farms.n)++BG L i).length+3:=by simp only[yi,Cq,List.range_zero,zB,yK];rfl
            rw[e];exact h3⟩
           have a7:=ya (x.o.hd _ _ _ h3.j)
           have d:=a7.o.box
           have B:=a7.o.turns i q
           rw[V.o] at B
           unfold AF.v at B
           clear h3 G a7 M U K I a1
           go_wp2_with fail
           clear d B
           go_loopw [170] (fun jv wq=>∃j:Nat,j<=(A5 L i).n∧jv=iV j∧Hid (∃O,JA J W0 l Bc ((((((AL (Ax L.s)++AM L L.lets.n)++Ay L L.crops.n)++Am L L.reaches.n)++AN L L.farms.n)++BG L i++AL (F5 L.rots i))++Cq (A5 L i) j).length O wq)) (fun jv _=>(A5 L i).n - (intOf jv).toNat)
           case atStart=>exact ⟨0,yv _,rfl,N⟩
           case round=>
            rename_i ao _
            clear N
            obtain ⟨j,hj,rfl,a2⟩:=hrel
            rename World=>wq
            have ag:=ya (a2.o.elim fun O h=>x.o.hd _ _ _ h.j)
            have d:=ag.o.box
            by_cases aa:j < (A5 L i).n
            ·obtain ⟨b2,o2,ab,a6⟩:=(Y.o.turns i q).get aa
             have B:=ag.o.turns i q
             rw[V.o] at B
             unfold AF.v at B
             rw[ab] at B
             have am:(j:Int) < ((A5 L i).n:Int):=by omega
             have al:(A5 L i).n<=140737488355328:=(Y.o.turns i q).1
             have a8:(fun k=>AL [(A5 L i).ptr 8 k 2]) j=((#[pV b2 (o2+j*8+2)]:Array Value).toList.map (fun p=>#[p,iV 0])):=by
              simp only[AL,AF.ptr,a6,zG,xh]
             have ai:Hid (∃post,X=((((((AL (Ax L.s)++AM L L.lets.n)++Ay L L.crops.n)++Am L L.reaches.n)++AN L L.farms.n)++BG L i++AL (F5 L.rots i))++Cq (A5 L i) j)++((#[pV b2 (o2+j*8+2)]:Array Value).toList.map (fun p=>#[p,iV 0])++post)):=ya (by
              obtain ⟨post,C⟩:=Cf (fun i=>AL (F5 L.rots i)++Cq (A5 L i) (A5 L i).n) q
              obtain ⟨Z,ak⟩:=Cf (fun k=>AL [(A5 L i).ptr 8 k 2]) aa
              have E:BG L L.rots.n=BG L i++((AL (F5 L.rots i)++Cq (A5 L i) (A5 L i).n)++post):=C
              have ah:Cq (A5 L i) (A5 L i).n=Cq (A5 L i) j++((#[pV b2 (o2+j*8+2)]:Array Value).toList.map (fun p=>#[p,iV 0])++Z):=ak.trans (yz (fun z=>Cq (A5 L i) j++(z++Z)) a8)
              refine ⟨Z++(post++((Bm L L.rights.n++C8 L L.duties.n))),?_⟩
              rw[HX.o]
              unfold Cw
              rw[E,ah]
              simp only[yg])
             obtain ⟨O,m⟩:=a2.o
             have T:=ya m
             clear m a6 ab a8
             go_wp2_with fail
             refine (Eg x.o hn (pre:=(((((AL (Ax L.s)++AM L L.lets.n)++Ay L L.crops.n)++Am L L.reaches.n)++AN L L.farms.n)++BG L i++AL (F5 L.rots i))++Cq (A5 L i) j) T.o 0 #[pV b2 (o2+j*8+2)] 1 rfl _ ai.o (by decide) (by simp) _ rfl).mono ?_
             rintro e w5 (⟨r,rfl,F⟩|⟨W,rfl,C⟩)
             rotate_left
             ·exact ⟨rfl,.inr ⟨W,rfl,C⟩⟩
             have G:=ya F
             clear F d B
             rcases G.o with ⟨rfl,P,h3⟩|⟨rfl,P,t⟩
             ·have u:Hid (∃O,JA J W0 l Bc ((((((AL (Ax L.s)++AM L L.lets.n)++Ay L L.crops.n)++Am L L.reaches.n)++AN L L.farms.n)++BG L i++AL (F5 L.rots i))++Cq (A5 L i) (j+1)).length O w5):=ya ⟨P,by
               have e3:(Cq (A5 L i) (j+1)).length=(Cq (A5 L i) j).length+1:=by rw[show Cq (A5 L i) (j+1)=Cq (A5 L i) j++_ from Az _ j,yi];rfl
               have e:((((((AL (Ax L.s)++AM L L.lets.n)++Ay L L.crops.n)++Am L L.reaches.n)++AN L L.farms.n)++BG L i++AL (F5 L.rots i))++Cq (A5 L i) (j+1)).length=((((((AL (Ax L.s)++AM L L.lets.n)++Ay L L.crops.n)++Am L L.reaches.n)++AN L L.farms.n)++BG L i++AL (F5 L.rots i))++Cq (A5 L i) j).length+1:=by simp only[yi,e3];omega
               rw[e];exact h3⟩
              clear h3 G
              go_wp2
              first
              |exact ⟨⟨j+1,by omega,by go_num,u⟩,by simp[intOf];omega⟩
              |(refine ⟨?_,by simp[intOf];omega⟩;(repeat apply @Exists.intro Value);exact ⟨⟨j+1,by omega,by go_num,u⟩,rfl⟩)
             ·have D:=ya t
              clear t
              go_wp2
              refine xg (zI rfl _ _ _) rfl ?_
              exact .inl ⟨⟨_,rfl⟩,.inr ⟨_,D.o⟩⟩
            ·have af:j=(A5 L i).n:=by omega
             rw[af] at a2
             have u:Hid (∃O,JA J W0 l Bc (((((AL (Ax L.s)++AM L L.lets.n)++Ay L L.crops.n)++Am L L.reaches.n)++AN L L.farms.n)++BG L (i+1)).length O wq):=ya (a2.o.elim fun P h3=>⟨P,by
              have e3:(BG L (i+1))=BG L i++(AL (F5 L.rots i)++Cq (A5 L i) (A5 L i).n):=Az _ i
              have e:(((((AL (Ax L.s)++AM L L.lets.n)++Ay L L.crops.n)++Am L L.reaches.n)++AN L L.farms.n)++BG L (i+1)).length=((((((AL (Ax L.s)++AM L L.lets.n)++Ay L L.crops.n)++Am L L.reaches.n)++AN L L.farms.n)++BG L i++AL (F5 L.rots i))++Cq (A5 L i) (A5 L i).n).length:=by rw[e3];simp only[yg]
              rw[e];exact h3⟩)
             clear a2 af d
             go_wp2
             first
             |exact ⟨⟨i+1,by omega,by go_num,u⟩,by simp[intOf];omega⟩
             |(refine ⟨?_,by simp[intOf];omega⟩;(repeat apply @Exists.intro Value);exact ⟨⟨i+1,by omega,by go_num,u⟩,rfl⟩)
          ·have y:i=L.rots.n:=by omega
           rw[y] at c
           have N:Hid (∃O,JA J W0 l Bc ((((((AL (Ax L.s)++AM L L.lets.n)++Ay L L.crops.n)++Am L L.reaches.n)++AN L L.farms.n)++BG L L.rots.n)++Bm L 0).length O wr):=ya (by
            have:=c.o
            rw[show ((((((AL (Ax L.s)++AM L L.lets.n)++Ay L L.crops.n)++Am L L.reaches.n)++AN L L.farms.n)++BG L L.rots.n)++Bm L 0).length=(((((AL (Ax L.s)++AM L L.lets.n)++Ay L L.crops.n)++Am L L.reaches.n)++AN L L.farms.n)++BG L L.rots.n).length by simp[Bm]]
            exact this)
           clear c y
           have a:=f.o.rights
           unfold AF.v at a
           clear f
           go_wp2_with fail
           clear d a
           go_loopw [191] (fun H wr=>∃i:Nat,i<=L.rights.n∧H=iV i∧Hid (∃O,JA J W0 l Bc ((((((AL (Ax L.s)++AM L L.lets.n)++Ay L L.crops.n)++Am L L.reaches.n)++AN L L.farms.n)++BG L L.rots.n)++Bm L i).length O wr)) (fun H _=>L.rights.n - (intOf H).toNat)
           case atStart=>exact ⟨0,yv _,rfl,N⟩
           case round=>
            clear N
            obtain ⟨i,hi,rfl,c⟩:=hrel
            have f:=ya (c.o.elim fun O h=>x.o.hd _ _ _ h.j)
            have d:=f.o.box
            by_cases q:i < L.rights.n
            ·obtain ⟨b,o,S,g⟩:=Y.o.rights.get q
             have a:=f.o.rights
             unfold AF.v at a
             rw[S] at a
             have a0:(i:Int) < (L.rights.n:Int):=by omega
             have R:L.rights.n<=140737488355328:=Y.o.rights.1
             have A:(fun i=>AL (Lp L.rights i)) i=((#[pV b (o+i*37+7),pV b (o+i*37+13),pV b (o+i*37+19),pV b (o+i*37+25),pV b (o+i*37+31)]:Array Value).toList.map (fun p=>#[p,iV 0])):=by
              simp only[AL,Lp,AF.ptr,g,zG,xh]
             have HP:Hid (∃post,X=((((((AL (Ax L.s)++AM L L.lets.n)++Ay L L.crops.n)++Am L L.reaches.n)++AN L L.farms.n)++BG L L.rots.n)++Bm L i)++((#[pV b (o+i*37+7),pV b (o+i*37+13),pV b (o+i*37+19),pV b (o+i*37+25),pV b (o+i*37+31)]:Array Value).toList.map (fun p=>#[p,iV 0])++post)):=ya (by
              obtain ⟨post,C⟩:=Cf (fun i=>AL (Lp L.rights i)) q
              have E:Bm L L.rights.n=Bm L i++((#[pV b (o+i*37+7),pV b (o+i*37+13),pV b (o+i*37+19),pV b (o+i*37+25),pV b (o+i*37+31)]:Array Value).toList.map (fun p=>#[p,iV 0])++post):=C.trans (yz (fun z=>Bm L i++(z++post)) A)
              refine ⟨(post++(C8 L L.duties.n)),?_⟩
              rw[HX.o]
              unfold Cw
              rw[E]
              simp only[yg])
             clear A
             have V:=ya g
             clear g S
             obtain ⟨O,m⟩:=c.o
             go_wp2_with fail
             have I:=ya (m.below x.o (yc _ _).drew)
             have a1:=ya (m.below x.o (((yc _ _).alloc (ye _) (.cells #[pV b (o+i*37+7),pV b (o+i*37+13),pV b (o+i*37+19),pV b (o+i*37+25),pV b (o+i*37+31)] 134)).drew))
             have K:=ya (x.o.hd _ _ _ I.o.j)
             have U:=ya (x.o.hd _ _ _ a1.o.j)
             have Q:=K.o.box
             go_region_held2 (fun w'=>w'.cell? (aV Bs 0)=some (pV L.s 0)) (first|exact K.o.box|exact U.o.box|exact M.o.box)
              (first|(go_at_call 90;refine (Eg x.o hn (pre:=(((((AL (Ax L.s)++AM L L.lets.n)++Ay L L.crops.n)++Am L L.reaches.n)++AN L L.farms.n)++BG L L.rots.n)++Bm L i) I.o 0 _ 5 rfl _ HP.o (by decide) (by simp) _ rfl).mono ?_;rintro e w3 (⟨r,rfl,F⟩|⟨W,rfl,C⟩);rotate_left;exact ⟨rfl,.inr ⟨W,rfl,C⟩⟩;have M:=ya (F.elim (fun h=>h.2.elim fun O h=>x.o.hd _ _ _ h.j) (fun h=>h.2.elim fun O h=>x.o.hdx _ _ h));have G:=ya F;clear F))
             clear Q d a m
             rcases G.o with ⟨rfl,P,h3⟩|⟨rfl,P,t⟩
             ·have u:Hid (∃O,JA J W0 l Bc ((((((AL (Ax L.s)++AM L L.lets.n)++Ay L L.crops.n)++Am L L.reaches.n)++AN L L.farms.n)++BG L L.rots.n)++Bm L (i+1)).length O w3):=ya ⟨P,by
               have e3:(Bm L (i+1)).length=(Bm L i).length+5:=by rw[show Bm L (i+1)=Bm L i++_ from Az _ i,yi];rfl
               have e:((((((AL (Ax L.s)++AM L L.lets.n)++Ay L L.crops.n)++Am L L.reaches.n)++AN L L.farms.n)++BG L L.rots.n)++Bm L (i+1)).length=((((((AL (Ax L.s)++AM L L.lets.n)++Ay L L.crops.n)++Am L L.reaches.n)++AN L L.farms.n)++BG L L.rots.n)++Bm L i).length+5:=by simp only[yi,e3];omega
               rw[e];exact h3⟩
              clear h3 G
              go_wp2
              first
              |exact ⟨⟨i+1,by omega,by go_num,u⟩,by simp[intOf];omega⟩
              |(refine ⟨?_,by simp[intOf];omega⟩;(repeat apply @Exists.intro Value);exact ⟨⟨i+1,by omega,by go_num,u⟩,rfl⟩)
             ·have D:=ya t
              clear t
              go_wp2
              refine xg (zI rfl _ _ _) rfl ?_
              exact .inl ⟨⟨_,rfl⟩,.inr ⟨_,D.o⟩⟩
            ·have y:i=L.rights.n:=by omega
             rw[y] at c
             have N:Hid (∃O,JA J W0 l Bc (((((((AL (Ax L.s)++AM L L.lets.n)++Ay L L.crops.n)++Am L L.reaches.n)++AN L L.farms.n)++BG L L.rots.n)++Bm L L.rights.n)++C8 L 0).length O wr):=ya (by
              have:=c.o
              rw[show (((((((AL (Ax L.s)++AM L L.lets.n)++Ay L L.crops.n)++Am L L.reaches.n)++AN L L.farms.n)++BG L L.rots.n)++Bm L L.rights.n)++C8 L 0).length=((((((AL (Ax L.s)++AM L L.lets.n)++Ay L L.crops.n)++Am L L.reaches.n)++AN L L.farms.n)++BG L L.rots.n)++Bm L L.rights.n).length by simp[C8]]
              exact this)
             clear c y
             have a:=f.o.duties
             unfold AF.v at a
             clear f
             go_wp2_with fail
             clear d a
             go_loopw [225] (fun H wr=>∃i:Nat,i<=L.duties.n∧H=iV i∧Hid (∃O,JA J W0 l Bc (((((((AL (Ax L.s)++AM L L.lets.n)++Ay L L.crops.n)++Am L L.reaches.n)++AN L L.farms.n)++BG L L.rots.n)++Bm L L.rights.n)++C8 L i).length O wr)) (fun H _=>L.duties.n - (intOf H).toNat)
             case atStart=>exact ⟨0,yv _,rfl,N⟩
             case round=>
              clear N
              obtain ⟨i,hi,rfl,c⟩:=hrel
              have f:=ya (c.o.elim fun O h=>x.o.hd _ _ _ h.j)
              have d:=f.o.box
              by_cases q:i < L.duties.n
              ·obtain ⟨b,o,S,g⟩:=Y.o.duties.get q
               have a:=f.o.duties
               unfold AF.v at a
               rw[S] at a
               have a0:(i:Int) < (L.duties.n:Int):=by omega
               have R:L.duties.n<=140737488355328:=Y.o.duties.1
               have A:(fun i=>AL [L.duties.ptr 11 i 5]) i=((#[pV b (o+i*11+5)]:Array Value).toList.map (fun p=>#[p,iV 0])):=by
                simp only[AL,AF.ptr,g,zG,xh]
               have HP:Hid (∃post,X=(((((((AL (Ax L.s)++AM L L.lets.n)++Ay L L.crops.n)++Am L L.reaches.n)++AN L L.farms.n)++BG L L.rots.n)++Bm L L.rights.n)++C8 L i)++((#[pV b (o+i*11+5)]:Array Value).toList.map (fun p=>#[p,iV 0])++post)):=ya (by
                obtain ⟨post,C⟩:=Cf (fun i=>AL [L.duties.ptr 11 i 5]) q
                have E:C8 L L.duties.n=C8 L i++((#[pV b (o+i*11+5)]:Array Value).toList.map (fun p=>#[p,iV 0])++post):=C.trans (yz (fun z=>C8 L i++(z++post)) A)
                refine ⟨post,?_⟩
                rw[HX.o]
                unfold Cw
                rw[E]
                simp only[yg])
               clear A
               have V:=ya g
               clear g S
               obtain ⟨O,m⟩:=c.o
               have T:=ya m
               clear m
               go_wp2_with fail
               refine (Eg x.o hn (pre:=((((((AL (Ax L.s)++AM L L.lets.n)++Ay L L.crops.n)++Am L L.reaches.n)++AN L L.farms.n)++BG L L.rots.n)++Bm L L.rights.n)++C8 L i) T.o 0 #[pV b (o+i*11+5)] 1 rfl _ HP.o (by decide) (by simp) _ rfl).mono ?_
               rintro e w3 (⟨r,rfl,F⟩|⟨W,rfl,C⟩)
               rotate_left
               ·exact ⟨rfl,.inr ⟨W,rfl,C⟩⟩
               have G:=ya F
               clear F d a
               rcases G.o with ⟨rfl,P,h3⟩|⟨rfl,P,t⟩
               ·have u:Hid (∃O,JA J W0 l Bc (((((((AL (Ax L.s)++AM L L.lets.n)++Ay L L.crops.n)++Am L L.reaches.n)++AN L L.farms.n)++BG L L.rots.n)++Bm L L.rights.n)++C8 L (i+1)).length O w3):=ya ⟨P,by
                 have e3:(C8 L (i+1)).length=(C8 L i).length+1:=by rw[show C8 L (i+1)=C8 L i++_ from Az _ i,yi];rfl
                 have e:(((((((AL (Ax L.s)++AM L L.lets.n)++Ay L L.crops.n)++Am L L.reaches.n)++AN L L.farms.n)++BG L L.rots.n)++Bm L L.rights.n)++C8 L (i+1)).length=(((((((AL (Ax L.s)++AM L L.lets.n)++Ay L L.crops.n)++Am L L.reaches.n)++AN L L.farms.n)++BG L L.rots.n)++Bm L L.rights.n)++C8 L i).length+1:=by simp only[yi,e3];omega
                 rw[e];exact h3⟩
                clear h3 G
                go_wp2
                first
                |exact ⟨⟨i+1,by omega,by go_num,u⟩,by simp[intOf];omega⟩
                |(refine ⟨?_,by simp[intOf];omega⟩;(repeat apply @Exists.intro Value);exact ⟨⟨i+1,by omega,by go_num,u⟩,rfl⟩)
               ·have D:=ya t
                clear t
                go_wp2
                refine xg (zI rfl _ _ _) rfl ?_
                exact .inl ⟨⟨_,rfl⟩,.inr ⟨_,D.o⟩⟩
              ·have y:i=L.duties.n:=by omega
               rw[y] at c
               have N:Hid (∃O,J X.length O wr):=ya (c.o.elim fun O h=>⟨O,by
                have:=h.j
                rw[show (((((((AL (Ax L.s)++AM L L.lets.n)++Ay L L.crops.n)++Am L L.reaches.n)++AN L L.farms.n)++BG L L.rots.n)++Bm L L.rights.n)++C8 L L.duties.n).length=X.length by rw[HX.o];unfold Cw;simp] at this
                exact this⟩)
               clear c y f d
               go_wp2
               go_end0
               exact .inl ⟨⟨_,rfl⟩,.inl N.o⟩
end Go.Proofs.Ytghepahgkcigpaa
