/- ref19.within and ref19.right. -/
import Derived.Test.YtbdfinegbjdblaaGreatDoorWq0
import Derived.Test.YtbdfinegbjdblaaGreatDoorWq9
set_option maxRecDepth 100000
set_option maxHeartbeats 32000000
set_option linter.unusedSimpArgs false
namespace Go.Proofs.YtbdfinegbjdblaaGreatDoor
open Go.RowKit Go.Proofs.Tryz
def wi(n lo hi:Int):Bool:=decide (lo<=n)&&decide (n<=hi)
theorem AW(n lo hi:Int)(w:World):Calls prog 53 #[.int .i64 n,.int .i64 lo,.int .i64 hi] w λe w'=>e=.returned (.bool (wi n lo hi))/\w'=w:=by
 unfold wi
 obtain ⟨b1,a⟩:∃b,decide (lo<=n)=b:=⟨_,rfl⟩
 obtain ⟨b2,c⟩:∃b,decide (n<=hi)=b:=⟨_,rfl⟩
 rw[a,c]
 cases b1
 all_goals
  go_enter func53,ntmps53
  go_wp2
  go_ret
  exact ⟨rfl,rfl⟩
theorem FN(a:Int):AL [a]=true:=rfl
theorem FO(a b:Int)(r:List Int):AL (a::b::r)=(decide (a<=b)&&AL (b::r)):=rfl
def TH(b a:Nat)(hours:Int)(x:CA):Bool:=
 if (wi x.farm 0 ((b:Int) - 1)&&(wi x.reach 0 ((a:Int) - 1)&&(wi x.frm 0 x.to&&!decide (hours<=x.to))))=true then
  (if x.kind=1 then decide (x.reach=0)&&(wi x.rank 0 1048576&&(wi x.litres 1 1073741824&&(wi x.len 1 x.every&&decide (x.every<=hours))))
   else if x.kind=2 then decide (x.rank=0)&&(decide (x.litres=0)&&(decide (x.every=0)&&(decide (x.len=0)&&(decide (x.frm=0)&&decide (x.to=hours - 1)))))
   else if x.kind=3 then decide (x.rank=0)&&(decide (x.litres=0)&&(decide (x.every=0)&&decide (x.len=0))) else false)
 else false
theorem WI(a c:Nat)(hours:Int)(x:CA):TH a c hours x=IQ a c hours x:=by
 have e:(wi x.farm 0 ((a:Int) - 1)&&(wi x.reach 0 ((c:Int) - 1)&&(wi x.frm 0 x.to&&!decide (hours<=x.to))))=(K1 x.farm a&&(K1 x.reach c&&AL [0,x.frm,x.to,hours - 1])):=by
  rw[zo]
  simp only[wi,K1,FN,FO,xL,yw,yM,qR,xW]
  omega
 unfold TH IQ
 rw[e]
 have d:(decide (x.reach=0)&&(wi x.rank 0 1048576&&(wi x.litres 1 1073741824&&(wi x.len 1 x.every&&decide (x.every<=hours)))))=(decide (x.reach=0)&&(AL [0,x.rank,1048576]&&(AL [1,x.litres,1073741824]&&AL [1,x.len,x.every,hours]))):=by
  rw[zo]
  simp only[wi,FN,FO,xL,yw,yM]
  omega
 rw[d]
 simp only[Bool.decide_and]
 generalize (K1 x.farm a&&(K1 x.reach c&&AL [0,x.frm,x.to,hours - 1]))=b
 cases b
 ·simp
 simp only[xi,Bool.true_and]
 congr 2
 rw[zo]
 simp only[yw,yM]
 omega
theorem Z4(a b c d e f:Bool):a=false\/(a=true/\b=false)\/(a=true/\b=true/\c=false)\/(a=true/\b=true/\c=true/\d=false)\/(a=true/\b=true/\c=true/\d=true/\e=false)\/(a=true/\b=true/\c=true/\d=true/\e=true):=by
 cases a<;>cases b<;>cases c<;>cases d<;>cases e<;>cases f<;>simp
theorem R6(dn:ByteArray)(hours dc ds:Int)(hr hf hc hg hd hw:AA)(x:CA)(w:World)(g1:1<=hours)(g2:hours<=4096)(g3:hf.n<=140737488355328)(g4:hr.n<=140737488355328):Calls prog 56 #[.agg (DW dn hours dc ds hr hf hc hg hd hw).toArray,.agg (AZ x).toArray] w λe w'=>e=.returned (.bool (IQ hf.n hr.n hours x))/\Below w.heap.size w w':=by
 rw[<-WI]
 obtain ⟨ra,rn,rc⟩:=hr
 obtain ⟨fa,fn,fc⟩:=hf
 obtain ⟨nm,kind,farm,reach,rank,d,frm,tt,j,len⟩:=x
 have a:=yb (Jg w (DW dn hours dc ds ⟨ra,rn,rc⟩ ⟨fa,fn,fc⟩ hc hg hd hw) (AZ ⟨nm,kind,farm,reach,rank,d,frm,tt,j,len⟩) 31 62)
 dsimp only at g3 g4 |-
 obtain ⟨m,hm⟩:∃m,m=hours - 1:=⟨_,rfl⟩
 obtain ⟨T,C⟩:∃m,m=(fn:Int) - 1:=⟨_,rfl⟩
 obtain ⟨r1,z⟩:∃m,m=(rn:Int) - 1:=⟨_,rfl⟩
 have a2:IntKind.i64.wrap (hours - 1)=m:=by rw[zF];omega
 have a7:IntKind.i64.wrap ((fn:Int) - 1)=T:=by rw[zF];omega
 have a6:IntKind.i64.wrap ((rn:Int) - 1)=r1:=by rw[zF];omega
 obtain ⟨a1,b⟩:∃r,r=TH fn rn hours ⟨nm,kind,farm,reach,rank,d,frm,tt,j,len⟩:=⟨_,rfl⟩
 rw[<-b]
 unfold TH at b
 dsimp only at b
 simp only[<-Hz,<-hm,<-C,<-z] at b
 clear g1 g2 g3 g4 hm C z
 unfold AZ DW AA.v at a |-
 dsimp only at a |-
 have f:=yb (λW:World=>AW farm 0 T W)
 have g:=yb (λW:World=>AW reach 0 r1 W)
 have p:=yb (λW:World=>AW frm 0 tt W)
 have l:=yb (λW:World=>AW rank 0 1048576 W)
 have k:=yb (λW:World=>AW d 1 1073741824 W)
 have h:=yb (λW:World=>AW len 1 j W)
 generalize wi farm 0 T=b1 at*
 generalize wi reach 0 r1=b2 at*
 generalize wi frm 0 tt=b3 at*
 generalize wi rank 0 1048576=c1 at*
 generalize wi d 1 1073741824=c2 at*
 generalize wi len 1 j=c3 at*
 obtain ⟨Y,Z⟩:∃c,decide (hours<=tt)=c:=⟨_,rfl⟩
 obtain ⟨c4,S⟩:∃c,decide (j<=hours)=c:=⟨_,rfl⟩
 obtain ⟨c0,O⟩:∃c,(reach==0)=c:=⟨_,rfl⟩
 obtain ⟨d1,N⟩:∃c,(rank==0)=c:=⟨_,rfl⟩
 obtain ⟨d2,Q⟩:∃c,(d==0)=c:=⟨_,rfl⟩
 obtain ⟨d3,X⟩:∃c,(j==0)=c:=⟨_,rfl⟩
 obtain ⟨d4,R⟩:∃c,(len==0)=c:=⟨_,rfl⟩
 obtain ⟨d5,U⟩:∃c,(frm==0)=c:=⟨_,rfl⟩
 obtain ⟨d6,V⟩:∃c,(tt==m)=c:=⟨_,rfl⟩
 rw[Z,S,O,N,Q,X,R,U,V] at b
 have hk:=Z0 kind
 have i:=yb b
 clear b
 rcases QO b1 b2 b3 (!Y) with rfl|⟨rfl,rfl⟩|⟨rfl,rfl,rfl⟩|⟨rfl,rfl,rfl,t⟩|⟨rfl,rfl,rfl,t⟩
 rotate_left 3
 ·obtain rfl:Y=true:=by simpa using t
  clear t hk
  go_enter func56,ntmps56
  go_upto_region 1 with fail
  generalize (w.alloc _).alloc _=W at a |-
  obtain ⟨L,M,G,q,D,A,u,J,E,F⟩:=BV a.o.x
  obtain ⟨B,H,s,z3,z4,z5,z6,K,I,z9⟩:=BV a.o.y
  go_wp2_with (first
   |(go_at_call 53;with_reducible refine (f.o _).mono ?_;rintro e w2 ⟨rfl,rfl⟩)
   |(go_at_call 53;with_reducible refine (g.o _).mono ?_;rintro e w2 ⟨rfl,rfl⟩)
   |(go_at_call 53;with_reducible refine (p.o _).mono ?_;rintro e w2 ⟨rfl,rfl⟩)
   |(go_at_call 53;with_reducible refine (l.o _).mono ?_;rintro e w2 ⟨rfl,rfl⟩)
   |(go_at_call 53;with_reducible refine (k.o _).mono ?_;rintro e w2 ⟨rfl,rfl⟩)
   |(go_at_call 53;with_reducible refine (h.o _).mono ?_;rintro e w2 ⟨rfl,rfl⟩))
  go_ret
  exact ⟨by rw[i.o];rfl,a.o.below⟩
 ·obtain rfl:Y=false:=by simpa using t
  clear t
  rcases hk with rfl|rfl|rfl|⟨k1,k2,k3,P⟩
  ·rcases QO c0 c1 c2 c3 with rfl|⟨rfl,rfl⟩|⟨rfl,rfl,rfl⟩|⟨rfl,rfl,rfl,rfl⟩|⟨rfl,rfl,rfl,rfl⟩
   all_goals
    go_enter func56,ntmps56
    go_upto_region 1 with fail
    generalize (w.alloc _).alloc _=W at a |-
    obtain ⟨L,M,G,q,D,A,u,J,E,F⟩:=BV a.o.x
    obtain ⟨B,H,s,z3,z4,z5,z6,K,I,z9⟩:=BV a.o.y
    go_wp2_with (first
     |(go_at_call 53;with_reducible refine (f.o _).mono ?_;rintro e w2 ⟨rfl,rfl⟩)
     |(go_at_call 53;with_reducible refine (g.o _).mono ?_;rintro e w2 ⟨rfl,rfl⟩)
     |(go_at_call 53;with_reducible refine (p.o _).mono ?_;rintro e w2 ⟨rfl,rfl⟩)
     |(go_at_call 53;with_reducible refine (l.o _).mono ?_;rintro e w2 ⟨rfl,rfl⟩)
     |(go_at_call 53;with_reducible refine (k.o _).mono ?_;rintro e w2 ⟨rfl,rfl⟩)
     |(go_at_call 53;with_reducible refine (h.o _).mono ?_;rintro e w2 ⟨rfl,rfl⟩))
    go_ret
    exact ⟨by rw[i.o];rfl,a.o.below⟩
  ·rcases Z4 d1 d2 d3 d4 d5 d6 with rfl|⟨rfl,rfl⟩|⟨rfl,rfl,rfl⟩|⟨rfl,rfl,rfl,rfl⟩|⟨rfl,rfl,rfl,rfl,rfl⟩|⟨rfl,rfl,rfl,rfl,rfl⟩
   all_goals
    go_enter func56,ntmps56
    go_upto_region 1 with fail
    generalize (w.alloc _).alloc _=W at a |-
    obtain ⟨L,M,G,q,D,A,u,J,E,F⟩:=BV a.o.x
    obtain ⟨B,H,s,z3,z4,z5,z6,K,I,z9⟩:=BV a.o.y
    go_wp2_with (first
     |(go_at_call 53;with_reducible refine (f.o _).mono ?_;rintro e w2 ⟨rfl,rfl⟩)
     |(go_at_call 53;with_reducible refine (g.o _).mono ?_;rintro e w2 ⟨rfl,rfl⟩)
     |(go_at_call 53;with_reducible refine (p.o _).mono ?_;rintro e w2 ⟨rfl,rfl⟩)
     |(go_at_call 53;with_reducible refine (l.o _).mono ?_;rintro e w2 ⟨rfl,rfl⟩)
     |(go_at_call 53;with_reducible refine (k.o _).mono ?_;rintro e w2 ⟨rfl,rfl⟩)
     |(go_at_call 53;with_reducible refine (h.o _).mono ?_;rintro e w2 ⟨rfl,rfl⟩))
    go_ret
    exact ⟨by rw[i.o];rfl,a.o.below⟩
  ·rcases QO d1 d2 d3 d4 with rfl|⟨rfl,rfl⟩|⟨rfl,rfl,rfl⟩|⟨rfl,rfl,rfl,rfl⟩|⟨rfl,rfl,rfl,rfl⟩
   all_goals
    go_enter func56,ntmps56
    go_upto_region 1 with fail
    generalize (w.alloc _).alloc _=W at a |-
    obtain ⟨L,M,G,q,D,A,u,J,E,F⟩:=BV a.o.x
    obtain ⟨B,H,s,z3,z4,z5,z6,K,I,z9⟩:=BV a.o.y
    go_wp2_with (first
     |(go_at_call 53;with_reducible refine (f.o _).mono ?_;rintro e w2 ⟨rfl,rfl⟩)
     |(go_at_call 53;with_reducible refine (g.o _).mono ?_;rintro e w2 ⟨rfl,rfl⟩)
     |(go_at_call 53;with_reducible refine (p.o _).mono ?_;rintro e w2 ⟨rfl,rfl⟩)
     |(go_at_call 53;with_reducible refine (l.o _).mono ?_;rintro e w2 ⟨rfl,rfl⟩)
     |(go_at_call 53;with_reducible refine (k.o _).mono ?_;rintro e w2 ⟨rfl,rfl⟩)
     |(go_at_call 53;with_reducible refine (h.o _).mono ?_;rintro e w2 ⟨rfl,rfl⟩))
    go_ret
    exact ⟨by rw[i.o];rfl,a.o.below⟩
  go_enter func56,ntmps56
  go_upto_region 1 with fail
  generalize (w.alloc _).alloc _=W at a |-
  obtain ⟨L,M,G,q,D,A,u,J,E,F⟩:=BV a.o.x
  obtain ⟨B,H,s,z3,z4,z5,z6,K,I,z9⟩:=BV a.o.y
  go_wp2_with (first
   |(go_at_call 53;with_reducible refine (f.o _).mono ?_;rintro e w2 ⟨rfl,rfl⟩)
   |(go_at_call 53;with_reducible refine (g.o _).mono ?_;rintro e w2 ⟨rfl,rfl⟩)
   |(go_at_call 53;with_reducible refine (p.o _).mono ?_;rintro e w2 ⟨rfl,rfl⟩)
   |(go_at_call 53;with_reducible refine (l.o _).mono ?_;rintro e w2 ⟨rfl,rfl⟩)
   |(go_at_call 53;with_reducible refine (k.o _).mono ?_;rintro e w2 ⟨rfl,rfl⟩)
   |(go_at_call 53;with_reducible refine (h.o _).mono ?_;rintro e w2 ⟨rfl,rfl⟩))
  go_ret
  exact ⟨by rw[i.o,ym P.o.1,ym P.o.2.1,ym P.o.2.2];rfl,a.o.below⟩
 all_goals
  go_enter func56,ntmps56
  go_upto_region 1 with fail
  generalize (w.alloc _).alloc _=W at a |-
  obtain ⟨L,M,G,q,D,A,u,J,E,F⟩:=BV a.o.x
  obtain ⟨B,H,s,z3,z4,z5,z6,K,I,z9⟩:=BV a.o.y
  go_wp2_with (first
   |(go_at_call 53;with_reducible refine (f.o _).mono ?_;rintro e w2 ⟨rfl,rfl⟩)
   |(go_at_call 53;with_reducible refine (g.o _).mono ?_;rintro e w2 ⟨rfl,rfl⟩)
   |(go_at_call 53;with_reducible refine (p.o _).mono ?_;rintro e w2 ⟨rfl,rfl⟩)
   |(go_at_call 53;with_reducible refine (l.o _).mono ?_;rintro e w2 ⟨rfl,rfl⟩)
   |(go_at_call 53;with_reducible refine (k.o _).mono ?_;rintro e w2 ⟨rfl,rfl⟩)
   |(go_at_call 53;with_reducible refine (h.o _).mono ?_;rintro e w2 ⟨rfl,rfl⟩))
  go_ret
  exact ⟨by rw[i.o];rfl,a.o.below⟩
end Go.Proofs.YtbdfinegbjdblaaGreatDoor
