import Derived.Test.YtabicbgeoiilmaaGreatDoorSeat
import Derived.Test.YtabicbgeoiilmaaGreatDoorIdx
namespace Go.Proofs.YtabicbgeoiilmaaGreatDoor
noncomputable section
set_option linter.unusedVariables false
section
namespace Acc
open Go.Vm
abbrev AcD:=Int×Int×Bool×Bool
def aQ (l:List AcD) (a:Int):Prop:=1<=a/\a<=l.length
instance (l:List AcD) (a:Int):Decidable (aQ l a):=by unfold aQ;infer_instance
def zl (l:List AcD) (a:Int):Int:=((l[(a-1).toNat]?).map (·.1)).getD 0
theorem oM {l:List AcD} {a:Int} {x:AcD} (h:l[(a-1).toNat]? =some x):zl l a=x.1:=by unfold zl;rw [h];rfl
def kS (l:List AcD) (a:Int):Nat->Int->List Int->List Int
 |0,_,out=>out
 |n+1,p,out=>if aQ l p/\p≠a/\p∉out then kS l a n (zl l p) (out++[p]) else out
def upF (l:List AcD) (a:Int):List Int:=if aQ l a then kS l a (l.length+1) (zl l a) [] else []
theorem qo: ∀(n:Nat) (out:List Int),out.Nodup->(∀x∈out,1<=x/\x<=n)->out.length<=n
 |0,out,_,hb=>by
  cases out with
  |nil=>simp
  |cons x r=>have:=hb x (by simp);omega
 |n+1,out,hd,hb=>by
  by_cases h:((n+1:Nat):Int)∈out
  ·have h1:=qo n (out.erase ((n+1:Nat):Int)) (hd.erase _) (fun x hx=>by
    have h2:=hb x (List.mem_of_mem_erase hx);have h3:x≠((n+1:Nat):Int):=((hd.mem_erase_iff).1 hx).1;omega)
   rw [List.length_erase_of_mem h] at h1;omega
  ·have:=qo n out hd (fun x hx=>by
    have h2:=hb x hx;have h3:x≠((n+1:Nat):Int):=fun e=>h (e▸hx);omega)
   omega
def it (l:List AcD) (a:Int):Nat->Int
 |0=>a
 |k+1=>zl l (it l a k)
def its (l:List AcD) (a:Int) (m:Nat):List Int:=(List.range m).map fun i=>it l a (i+1)
theorem fw (l:List AcD) (a:Int) (m:Nat):its l a (m+1)=its l a m++[it l a (m+1)]:=by
 unfold its;rw [List.range_succ,RW];rfl
structure Way (l:List AcD) (a:Int) (m:Nat):Prop where
 dup:(its l a m).Nodup
 inn: ∀x∈its l a m,aQ l x/\x≠a
theorem Way.len {l:List AcD} {a:Int} {m:Nat} (h:Way l a m) (ha:aQ l a):m+1<=l.length:=by
 have h1:(a::its l a m).Nodup:=Su.2 ⟨fun k=>(h.inn a k).2 rfl,h.dup⟩;have h2:=qo l.length (a::its l a m) h1 (fun x hx=>by
  rcases Rp.1 hx with rfl|hx
  ·exact ha
  ·exact (h.inn x hx).1)
 simp [its] at h2;omega
theorem Way.next {l:List AcD} {a:Int} {m:Nat} (h:Way l a m) (h1:aQ l (it l a (m+1))) (h2:it l a (m+1)≠a) (h3:it l a (m+1)∉its l a m):Way l a (m+1):=by
 refine ⟨?_,fun x hx=> ?_⟩
 ·rw [fw];exact List.nodup_append.2 ⟨h.dup,by simp,fun x hx y hy=>by
   rw [Ru.1 hy];exact fun e=>h3 (e▸hx)⟩
 ·rw [fw,Rn,Ru] at hx;rcases hx with hx|rfl
  ·exact h.inn x hx
  ·exact ⟨h1,h2⟩
theorem Way.zero (l:List AcD) (a:Int):Way l a 0:=⟨by simp [its],fun x hx=>by simp [its] at hx⟩
theorem JK {l:List AcD} {a:Int} (ha:aQ l a): ∀(n m:Nat),l.length<=m+n->Way l a m->
 ∃k,kS l a (n+1) (it l a (m+1)) (its l a m)=its l a k/\Way l a k/\¬(aQ l (it l a (k+1))/\it l a (k+1)≠a/\it l a (k+1)∉its l a k)
 |0,m,hn,hw=>by
  have:=hw.len ha;omega
 |n+1,m,hn,hw=>by
  rw [kS];by_cases c:aQ l (it l a (m+1))/\it l a (m+1)≠a/\it l a (m+1)∉its l a m
  ·rw [Q_ c,<-fw];exact JK ha n (m+1) (by omega) (hw.next c.1 c.2.1 c.2.2)
  ·rw [Q8 c];exact ⟨m,rfl,hw,c⟩
theorem O6 {l:List AcD} {a:Int} (ha:aQ l a): ∃k,upF l a=its l a k/\Way l a k/\¬(aQ l (it l a (k+1))/\it l a (k+1)≠a/\it l a (k+1)∉its l a k):=by
 unfold upF;rw [Q_ ha];exact JK ha l.length 0 (by omega) (.zero l a)
end Acc
end
section
namespace Acc
open Go.Vm
def PU (l:List AcD) (a:Int):Env:=ee
def Da (l:List AcD) (a:Int):Prop:=
 (ag (1<=a)->(decide (a<=l.length),())=(decide (aQ l a),()))/\(aP (1<=a)->(false,())=(decide (aQ l a),()))
theorem NA (l:List AcD) (a:Int):Da l a:=by
 unfold Da aP ag;simp only [Q7,Q6,Rl,Prod.mk.injEq,and_true];refine ⟨fun h=>decide_eq_decide.2 ⟨fun k=>⟨h,k⟩,fun k=>k.2⟩,fun h=> ?_⟩;rw [Rs (fun k:aQ l a=>h k.1)]
set_option maxRecDepth 20000
def Hl:FSpec Tryz.prog:=mkF 184 (.c (.l AcT) (.c .j .z)) [.bool] (fun x=>(fun (l:List AcD) (a:Int)=>(True,decide (aQ l a),())) x.1 x.2.1) fun ⟨l,a,_⟩ _=>av (E:=PU l a) (NA l a) (ab rfl [] [] rfl rfl) Tryz.func184
def NB (l:List AcD) (a:Int):Env:=ee
def xE (l:List AcD) (a:Int):Prop:=
 (ag (1<=a)->(decide (a<=l.length),())=(decide (aQ l a),()))/\(aP (1<=a)->(false,())=(decide (aQ l a),()))
theorem JL (l:List AcD) (a:Int):xE l a:=by
 unfold xE aP ag;simp only [Q7,Q6,Rl,Prod.mk.injEq,and_true];refine ⟨fun h=>decide_eq_decide.2 ⟨fun k=>⟨h,k⟩,fun k=>k.2⟩,fun h=> ?_⟩;rw [Rs (fun k:aQ l a=>h k.1)]
def tQ:FSpec Tryz.prog:=mkF 167 (.c (.l AcT) (.c .j .z)) [.bool] (fun x=>(fun (l:List AcD) (a:Int)=>(True,decide (aQ l a),())) x.1 x.2.1) fun ⟨l,a,_⟩ _=>av (E:=NB l a) (JL l a) (ab rfl [] [] rfl rfl) Tryz.func167
def bx (p n:Int):Int:=if p<0∨n<p then 21 else if 1<=p/\p<=3 then 28 else 0
def ac (k:Int) (s q:Bool):Int:=if k<1∨3<k∨(s=true/\q=true) then 25 else 0
def gq (x:AcD) (n:Int):Int:=if bx x.1 n=0 then ac x.2.1 x.2.2.1 x.2.2.2 else bx x.1 n
def FA (p n:Int):Env:=ee
def qp (p:Int) (n:Int):Prop:=
 (aj (p<0)->(ag (n<p)->((21:Int),())=(bx p n,()))/\(aj (n<p)->(ag (1<=p)->(ag (p<=3)->((28:Int),())=(bx p n,()))/\(aj (p<=3)->((0:Int),())=(bx p n,())))/\(aP (1<=p)->((0:Int),())=(bx p n,()))))/\(bu (p<0)->((21:Int),())=(bx p n,()))
theorem AN (p n:Int):qp p n:=by
 unfold qp aj bu aP ag bx;simp only [Q7,Q6,Rg,Rl];repeat' (first|with_reducible apply And.intro|intro _)
 all_goals (try congr 1)
 all_goals repeat' split
 all_goals first|rfl|omega|(simp_all;done)|(simp_all;omega)
def wa:FSpec Tryz.prog:=mkF 181 (.c .j (.c .j .z)) [.int .i64] (fun x=>(fun (p n:Int)=>(True,bx p n,())) x.1 x.2.1) fun ⟨p,n,_⟩ _=>av (E:=FA p n) (AN p n) (ab rfl [] [] rfl rfl) Tryz.func181
def pO (a k:Int) (s q:Bool):Env:=ee
def gF (a:Int) (k:Int) (s:Bool) (q:Bool):Prop:=
 (aj (k<1)->(aj (3<k)->(s=true->(q=true->((25:Int),())=(ac k s q,()))/\(q=false->((0:Int),())=(ac k s q,())))/\(s= !true->((0:Int),())=(ac k s q,())))/\(bu (3<k)->((25:Int),())=(ac k s q,())))/\(bu (k<1)->((25:Int),())=(ac k s q,()))
theorem mC (a k:Int) (s q:Bool):gF a k s q:=by
 unfold gF aj bu ac;simp only [Q7,Q6,Rg,Rl];repeat' (first|with_reducible apply And.intro|intro _)
 all_goals (try congr 1)
 all_goals repeat' split
 all_goals first|rfl|omega|(simp_all;done)|(simp_all;omega)
def tS:FSpec Tryz.prog:=mkF 182 (.c (.g (.c .j (.c .j (.c .b (.c .b .z))))) .z) [.int .i64] (fun x=>(fun (a k:Int) (s q:Bool)=>(True,ac k s q,())) x.1.1 x.1.2.1 x.1.2.2.1 x.1.2.2.2.1) fun ⟨⟨a,k,s,q,_⟩,_⟩ _=>av (E:=pO a k s q) (mC a k s q) (ab rfl [] [] rfl rfl) Tryz.func182
def fE (a k:Int) (s q:Bool) (n:Int):Env:=ee
def cy (a:Int) (k:Int) (s:Bool) (q:Bool) (n:Int):Prop:=
 (decide (a<0)=false->(decide (n<a)=true->((21:Int),())=(gq (a,k,s,q) n,()))/\(decide (n<a)=false->(decide (1<=a)=true->(decide (a<=3)=true->((28:Int),())=(gq (a,k,s,q) n,()))/\(decide (a<=3)=false->(decide (k<1)=false->(decide (3<k)=false->(s=true->(q=true->((25:Int),())=(gq (a,k,s,q) n,()))/\(q=false->((0:Int),())=(gq (a,k,s,q) n,())))/\(s= !true->((0:Int),())=(gq (a,k,s,q) n,())))/\(decide (3<k)= !false->((25:Int),())=(gq (a,k,s,q) n,())))/\(decide (k<1)= !false->((25:Int),())=(gq (a,k,s,q) n,()))))/\(decide (1<=a)= !true->(decide (k<1)=false->(decide (3<k)=false->(s=true->(q=true->((25:Int),())=(gq (a,k,s,q) n,()))/\(q=false->((0:Int),())=(gq (a,k,s,q) n,())))/\(s= !true->((0:Int),())=(gq (a,k,s,q) n,())))/\(decide (3<k)= !false->((25:Int),())=(gq (a,k,s,q) n,())))/\(decide (k<1)= !false->((25:Int),())=(gq (a,k,s,q) n,())))))/\(decide (a<0)= !false->((21:Int),())=(gq (a,k,s,q) n,()))
theorem ej (a k:Int) (s q:Bool) (n:Int):cy a k s q n:=by
 unfold cy gq ac bx;simp only [Q7,Q6,Rg,Rl];repeat' (first|with_reducible apply And.intro|intro _)
 all_goals (try congr 1)
 all_goals repeat' split
 all_goals first|rfl|omega|(simp_all;done)|(simp_all;omega)
def g9:FSpec Tryz.prog:=mkF 166 (.c (.g (.c .j (.c .j (.c .b (.c .b .z))))) (.c .j .z)) [.int .i64] (fun x=>(fun (a k:Int) (s q:Bool) (n:Int)=>(True,gq (a,k,s,q) n,())) x.1.1 x.1.2.1 x.1.2.2.1 x.1.2.2.2.1 x.2.1) fun ⟨⟨a,k,s,q,_⟩,n,_⟩ _=>av (E:=fE a k s q n) (ej a k s q n) (ab rfl [] [] rfl rfl) Tryz.func166
abbrev aR:List AcD:=[(0,1,true,false),(0,1,false,false),(0,1,false,false)]
def tX:Env:=ee
def kX:Prop:=
 ([((0:Int),(1:Int),true,false),((0:Int),(1:Int),false,false),((0:Int),(1:Int),false,false)],())=(aR,())
theorem po:kX:=rfl
def pm:FSpec Tryz.prog:=mkF 44 .z [.list .full AcT] (fun x=>(True,aR,())) fun _ _=>av (E:=tX) po (ab rfl [] [] rfl rfl) Tryz.func44
def pp:Env:=ee
def jt:Prop:=
 ([((0:Int),(1:Int),true,false),((0:Int),(1:Int),false,false),((0:Int),(1:Int),false,false)],())=(aR,())
theorem mo:jt:=rfl
def tY:FSpec Tryz.prog:=mkF 70 .z [.list .full AcT] (fun x=>(True,aR,())) fun _ _=>av (E:=pp) mo (ab rfl [] [] rfl rfl) Tryz.func70
def eX (a:Int) (x:AcD):Bool:=decide (x.1=a)
def NC (p k:Int) (s q:Bool) (a:Int):Env:=ee
def xF (p:Int) (k:Int) (s:Bool) (q:Bool) (a:Int):Prop:=
 (decide (p=a),())=(eX a (p,k,s,q),())
theorem JM (p k:Int) (s q:Bool) (a:Int):xF p k s q a:=by
 unfold xF;exact rfl
def PV:FSpec Tryz.prog:=mkF 224 (.c (.g (.c .j (.c .j (.c .b (.c .b .z))))) (.c (.f (.c .j .z)) .z)) [.bool] (fun x=>(fun (p k:Int) (s q:Bool) (a:Int)=>(True,eX a (p,k,s,q),())) x.1.1 x.1.2.1 x.1.2.2.1 x.1.2.2.2.1 x.2.1.1) fun ⟨⟨p,k,s,q,_⟩,⟨a,_⟩,_⟩ _=>av (E:=NC p k s q a) (JM p k s q a) (ab rfl [] [] rfl rfl) Tryz.func224
def JN (l:List AcD) (a:Int):Env where
 P:=Tryz.prog
 ty:=aJ
 specs:=ai [PV]
 heads:=fun|2=>some {slots:=[(8, .int .i64)],boxes:=[],inv:=fun _ (x:Int×Unit)=>0<=x.1/\x.1<=l.length/\bj (eX a) l=bm (eX a) (l.drop x.1.toNat) x.1,measure:=fun _ (x:Int×Unit)=>(l.length-x.1).toNat}|_=>none
def sG (l:List AcD) (a:Int):Prop:=
 (True/\0<=(0:Int)/\0<=(↑l.length:Int)/\bj (eX a) l=bm (eX a) (List.drop (Int.toNat 0) l) 0)/\∀(x:Int×Unit),0<=x.1/\x.1<=l.length/\bj (eX a) l=bm (eX a) (List.drop x.1.toNat l) x.1->(ag (x.1<l.length)->(0<=x.1/\x.1<l.length)/\∀(x_1:Int×Int×Bool×Bool),l[x.1.toNat]? =some x_1->True/\(eX a (x_1.1,x_1.2.1,x_1.2.2.1,x_1.2.2.2)=true->(x.1,())=(bj (eX a) l,()))/\(eX a (x_1.1,x_1.2.1,x_1.2.2.1,x_1.2.2.2)=false->(au (x.1+1))/\True/\(0<=x.1+1/\x.1+1<=l.length/\bj (eX a) l=bm (eX a) (List.drop (x.1+1).toNat l) (x.1+1))/\(l.length-(x.1+1)).toNat<(l.length-x.1).toNat))/\(aj (x.1<l.length)->((-1:Int),())=(bj (eX a) l,()))
theorem FB (l:List AcD) (a:Int) (h:l.length<=1000000000):sG l a:=by
 unfold sG aj ag;simp only [Q7,Q6];refine ⟨⟨trivial,by omega,by omega,rfl⟩, ?_⟩;rintro ⟨i,⟨⟩⟩ ⟨h0,h1,hb⟩;dsimp only at h0 h1 hb⊢;rw [hb];refine ⟨fun c=>⟨⟨h0,c⟩,fun x hx=>⟨trivial,fun k=> ?_,fun k=>⟨by omega,trivial,⟨by omega,by omega, ?_⟩,by omega⟩⟩⟩,fun c=> ?_⟩
 ·rw [ga h0 hx k]
 ·rw [dW h0 hx k]
 ·rw [gb c]
def ND:FSpec Tryz.prog:=mkF 242 (.c (.l AcT) (.c (.n 224 .z (.c (.f (.c .j .z)) .z)) .z)) [.int .i64] (fun x=>(fun (l:List AcD) (a:Int)=>(l.length<=1000000000,bj (eX a) l,())) x.1 x.2.1.2.1.1) fun ⟨l,⟨_,⟨⟨a,_⟩,_⟩⟩,_⟩ h=>av (E:=JN l a) (FB l a h) (ab rfl _ [] rfl rfl) Tryz.func242
def FC (l:List AcD) (a:Int):Env where
 P:=Tryz.prog
 ty:=aJ
 specs:=ai [ND]
def qq (l:List AcD) (a:Int):Prop:=
 l.length<=(1000000000:Nat)/\(decide (0<=bj (eX a) l),())=(l.any (eX a),())
theorem AO (l:List AcD) (a:Int) (h:l.length<=1000000000):qq l a:=by
 unfold qq;exact ⟨h,by rw [jy]⟩
def JO:FSpec Tryz.prog:=mkF 223 (.c (.l AcT) (.c (.n 224 .z (.c (.f (.c .j .z)) .z)) .z)) [.bool] (fun x=>(fun (l:List AcD) (a:Int)=>(l.length<=1000000000,l.any (eX a),())) x.1 x.2.1.2.1.1) fun ⟨l,⟨_,⟨⟨a,_⟩,_⟩⟩,_⟩ h=>av (E:=FC l a) (AO l a h) (ab rfl _ [] rfl rfl) Tryz.func223
def bf (l:List AcD) (a:Int):Bool:=decide (aQ l a)&& !l.any (eX a)
def JP (l:List AcD) (a:Int):Env where
 P:=Tryz.prog
 ty:=aJ
 specs:=ai [Hl,JO]
def sH (l:List AcD) (a:Int):Prop:=
 True/\(ag (aQ l a)->l.length<=(1000000000:Nat)/\(!l.any (eX a),())=(bf l a,()))/\(aP (aQ l a)->(false,())=(bf l a,()))
theorem FD (l:List AcD) (a:Int) (h:l.length<=1000000000):sH l a:=by
 unfold sH aP ag bf;refine ⟨trivial,fun c=>⟨h,by rw [c,SG]⟩,fun c=> ?_⟩;rw [show decide (aQ l a)=false by simpa using c,Bool.false_and]
def NE:FSpec Tryz.prog:=mkF 193 (.c (.l AcT) (.c .j .z)) [.bool] (fun x=>(fun (l:List AcD) (a:Int)=>(l.length<=1000000000,bf l a,())) x.1 x.2.1) fun ⟨l,a,_⟩ h=>av (E:=JP l a) (FD l a h) (ab rfl _ [] rfl rfl) Tryz.func193
def FE (l:List AcD) (a:Int):Env where
 P:=Tryz.prog
 ty:=aJ
 specs:=ai [NE]
def qr (l:List AcD) (a:Int):Prop:=
 l.length<=(1000000000:Nat)/\(bf l a,())=(bf l a,())
theorem AP (l:List AcD) (a:Int) (h:l.length<=1000000000):qr l a:=by
 unfold qr;exact ⟨h,rfl⟩
def Ir:FSpec Tryz.prog:=mkF 142 (.c (.l AcT) (.c .j .z)) [.bool] (fun x=>(fun (l:List AcD) (a:Int)=>(l.length<=1000000000,bf l a,())) x.1 x.2.1) fun ⟨l,a,_⟩ h=>av (E:=FE l a) (AP l a h) (ab rfl _ [] rfl rfl) Tryz.func142
def Hr (p:Int->Bool):Nat->Int->List Int
 |0,_=>[]
 |f+1,i=>if p i=true then i::Hr p f (i+1) else Hr p f (i+1)
def bi (p:Int->Bool) (n:Nat):List Int:=Hr p n 1
end Acc
end
section
namespace Rts
open Go.Vm
abbrev Rt:=Int×Int×Int×Int×Int×Int
def dq (a b:Int):Int:=if 1<=a/\1<=b/\a<=1000000000000/\b<=1000000000000 then 0 else 11
def kB (a b:Int):Env:=ee
def eM (a:Int) (b:Int):Prop:=
 (aj (mmI false a b<1)->(ag (1000000000000<mmI true a b)->((11:Int),())=(dq a b,()))/\(aj (1000000000000<mmI true a b)->((0:Int),())=(dq a b,())))/\(bu (mmI false a b<1)->((11:Int),())=(dq a b,()))
theorem iX (a b:Int):eM a b:=by
 unfold eM aj bu ag dq mmI;simp only [Q7,Q6,if_true,Rx,if_false,Rg,Prod.mk.injEq,and_true];refine ⟨fun h1=>⟨fun h2=> ?_,fun h2=> ?_⟩,fun h1=> ?_⟩<;>split<;>omega
set_option maxRecDepth 20000
def mB:FSpec Tryz.prog:=mkF 214 (.c (.g (.c .j (.c .j .z))) .z) [.int .i64] (fun x=>(fun (a b:Int)=>(True,dq a b,())) x.1.1 x.1.2.1) fun ⟨⟨a,b,_⟩,_⟩ _=>av (E:=kB a b) (iX a b) (ab rfl [] [] rfl rfl) Tryz.func214
def bo (c:Int):Bool:=decide (1<=c/\c<=8)
def mR (c:Int):Env:=ee
def fL (c:Int):Prop:=
 (decide (1<=c)=true->(decide (c<=8),())=(bo c,()))/\(decide (1<=c)= !true->(false,())=(bo c,()))
def AQ (c:Int):Env:=ee
def nX (c:Int):Prop:=
 (ag (1<=c)->(decide (c<=8),())=(bo c,()))/\(aP (1<=c)->(false,())=(bo c,()))
theorem kK (c:Int):fL c:=by
 unfold fL bo;simp only [Q7,Q6,Rl,Prod.mk.injEq,and_true];refine ⟨fun h=>decide_eq_decide.2 (by omega),fun h=> ?_⟩;rw [Rs (by omega)]
def o9:FSpec Tryz.prog:=mkF 213 (.c .j .z) [.bool] (fun x=>(fun (c:Int)=>(True,bo c,())) x.1) fun ⟨c,_⟩ _=>av (E:=mR c) (kK c) (ab rfl [] [] rfl rfl) Tryz.func213
theorem nY (c:Int):nX c:=by
 unfold nX aP ag bo;simp only [Q7,Q6,Rl,Prod.mk.injEq,and_true];refine ⟨fun h=>decide_eq_decide.2 (by omega),fun h=> ?_⟩;rw [Rs (by omega)]
def jp:FSpec Tryz.prog:=mkF 165 (.c .j .z) [.bool] (fun x=>(fun (c:Int)=>(True,bo c,())) x.1) fun ⟨c,_⟩ _=>av (E:=AQ c) (nY c) (ab rfl [] [] rfl rfl) Tryz.func165
def cL (x:Rt):Int:=
 if¬(bo x.1=true/\bo x.2.1=true/\x.1≠x.2.1) then 23 else if¬(1<=x.2.2.1/\x.2.2.1<=3) then 25 else if¬(0<=x.2.2.2.1/\x.2.2.2.1<=23) then 22 else dq x.2.2.2.2.1 x.2.2.2.2.2
def ic (a b c p n d:Int):Env where
 P:=Tryz.prog
 ty:=aJ
 specs:=ai [o9,mB]
def da (a:Int) (b:Int) (c:Int) (p:Int) (n:Int) (d:Int):Prop:=
 True/\((!bo a)=false->True/\((!bo b)=false->(decide (a=b)=true->((23:Int),())=(cL (a,b,c,p,n,d),()))/\(decide (a=b)=false->(decide (c<1)=false->(decide (3<c)=true->((25:Int),())=(cL (a,b,c,p,n,d),()))/\(decide (3<c)=false->(decide (p<0)=false->(decide (24<=p)=true->((22:Int),())=(cL (a,b,c,p,n,d),()))/\(decide (24<=p)=false->True/\(dq n d,())=(cL (a,b,c,p,n,d),())))/\(decide (p<0)= !false->((22:Int),())=(cL (a,b,c,p,n,d),()))))/\(decide (c<1)= !false->((25:Int),())=(cL (a,b,c,p,n,d),()))))/\((!bo b)= !false->((23:Int),())=(cL (a,b,c,p,n,d),())))/\((!bo a)= !false->((23:Int),())=(cL (a,b,c,p,n,d),()))
theorem mS {x:Rt} (h: ¬(bo x.1=true/\bo x.2.1=true/\x.1≠x.2.1)):cL x=23:=by unfold cL;rw [Q_ h]
theorem uH {x:Rt} (h:bo x.1=true/\bo x.2.1=true/\x.1≠x.2.1) (k: ¬(1<=x.2.2.1/\x.2.2.1<=3)):cL x=25:=by unfold cL;rw [Q8 (fun c=>c h),Q_ k]
theorem uI {x:Rt} (h:bo x.1=true/\bo x.2.1=true/\x.1≠x.2.1) (k:1<=x.2.2.1/\x.2.2.1<=3) (m: ¬(0<=x.2.2.2.1/\x.2.2.2.1<=23)):cL x=22:=by
 unfold cL;rw [Q8 (fun c=>c h),Q8 (fun c=>c k),Q_ m]
theorem JQ {x:Rt} (h:bo x.1=true/\bo x.2.1=true/\x.1≠x.2.1) (k:1<=x.2.2.1/\x.2.2.1<=3) (m:0<=x.2.2.2.1/\x.2.2.2.1<=23):cL x=dq x.2.2.2.2.1 x.2.2.2.2.2:=by
 unfold cL;rw [Q8 (fun c=>c h),Q8 (fun c=>c k),Q8 (fun c=>c m)]
theorem fF (a b c p n d:Int):da a b c p n d:=by
 unfold da;simp only [Q7,Q6,Rb,Rd,Rg];refine ⟨trivial,fun h1=>⟨trivial,fun h2=>⟨fun h3=> ?_,fun h3=>⟨fun h4=>⟨fun h5=> ?_,fun h5=>⟨fun h6=>⟨fun h7=> ?_,fun h7=>⟨trivial, ?_⟩⟩,fun h6=> ?_⟩⟩,fun h4=> ?_⟩⟩,fun h2=> ?_⟩,fun h1=> ?_⟩
 ·rw [mS (fun k=>k.2.2 h3)]
 ·rw [uH ⟨h1,h2,h3⟩ (fun k=>by have:=k.2;dsimp only at this;omega)]
 ·rw [uI ⟨h1,h2,h3⟩ (by dsimp only;omega) (fun k=>by have:=k.2;dsimp only at this;omega)]
 ·rw [JQ ⟨h1,h2,h3⟩ (by dsimp only;omega) (by dsimp only;omega)]
 ·rw [uI ⟨h1,h2,h3⟩ (by dsimp only;omega) (fun k=>by have:=k.1;dsimp only at this;omega)]
 ·rw [uH ⟨h1,h2,h3⟩ (fun k=>by have:=k.1;dsimp only at this;omega)]
 ·rw [mS (fun k=>by have:=k.2.1;dsimp only at this;rw [h2] at this;cases this)]
 ·rw [mS (fun k=>by have:=k.1;dsimp only at this;rw [h1] at this;cases this)]
def iM:FSpec Tryz.prog:=mkF 187 (.c (.g (.c .j (.c .j (.c .j (.c .j (.c .j (.c .j .z))))))) .z) [.int .i64] (fun x=>(fun (a b c p n d:Int)=>(True,cL (a,b,c,p,n,d),())) x.1.1 x.1.2.1 x.1.2.2.1 x.1.2.2.2.1 x.1.2.2.2.2.1 x.1.2.2.2.2.2.1) fun ⟨⟨a,b,c,p,n,d,_⟩,_⟩ _=>av (E:=ic a b c p n d) (fF a b c p n d) (ab rfl _ [] rfl rfl) Tryz.func187
def xG (a b:Int):Env:=ee
def lB (a:Int) (b:Int):Prop:=
 (aj (a<1)->(aj (b<1)->(aj (1000000000000<a)->(ag (1000000000000<b)->((11:Int),())=(dq a b,()))/\(aj (1000000000000<b)->((0:Int),())=(dq a b,())))/\(bu (1000000000000<a)->((11:Int),())=(dq a b,())))/\(bu (b<1)->((11:Int),())=(dq a b,())))/\(bu (a<1)->((11:Int),())=(dq a b,()))
theorem uJ (a b:Int):lB a b:=by
 unfold lB aj bu ag dq;simp only [Q7,Q6,Rg,Prod.mk.injEq,and_true];refine ⟨fun h1=>⟨fun h2=>⟨fun h3=>⟨fun h4=> ?_,fun h4=> ?_⟩,fun h3=> ?_⟩,fun h2=> ?_⟩,fun h1=> ?_⟩<;>split<;>omega
def AR:FSpec Tryz.prog:=mkF 210 (.c (.g (.c .j (.c .j .z))) .z) [.int .i64] (fun x=>(fun (a b:Int)=>(True,dq a b,())) x.1.1 x.1.2.1) fun ⟨⟨a,b,_⟩,_⟩ _=>av (E:=xG a b) (uJ a b) (ab rfl [] [] rfl rfl) Tryz.func210
def fE (a b c p n d:Int):Env where
 P:=Tryz.prog
 ty:=aJ
 specs:=ai [jp,AR]
def cy (a:Int) (b:Int) (c:Int) (p:Int) (n:Int) (d:Int):Prop:=
 True/\((!bo a)=false->True/\((!bo b)=false->(decide (a=b)=true->((23:Int),())=(cL (a,b,c,p,n,d),()))/\(decide (a=b)=false->(decide (c<1)=false->(decide (3<c)=true->((25:Int),())=(cL (a,b,c,p,n,d),()))/\(decide (3<c)=false->(decide (p<0)=false->(decide (23<p)=true->((22:Int),())=(cL (a,b,c,p,n,d),()))/\(decide (23<p)=false->True/\(dq n d,())=(cL (a,b,c,p,n,d),())))/\(decide (p<0)= !false->((22:Int),())=(cL (a,b,c,p,n,d),()))))/\(decide (c<1)= !false->((25:Int),())=(cL (a,b,c,p,n,d),()))))/\((!bo b)= !false->((23:Int),())=(cL (a,b,c,p,n,d),())))/\((!bo a)= !false->((23:Int),())=(cL (a,b,c,p,n,d),()))
theorem ej (a b c p n d:Int):cy a b c p n d:=by
 unfold cy;simp only [Q7,Q6,Rb,Rd,Rg];refine ⟨trivial,fun h1=>⟨trivial,fun h2=>⟨fun h3=> ?_,fun h3=>⟨fun h4=>⟨fun h5=> ?_,fun h5=>⟨fun h6=>⟨fun h7=> ?_,fun h7=>⟨trivial, ?_⟩⟩,fun h6=> ?_⟩⟩,fun h4=> ?_⟩⟩,fun h2=> ?_⟩,fun h1=> ?_⟩
 ·rw [mS (fun k=>k.2.2 h3)]
 ·rw [uH ⟨h1,h2,h3⟩ (fun k=>by have:=k.2;dsimp only at this;omega)]
 ·rw [uI ⟨h1,h2,h3⟩ (by dsimp only;omega) (fun k=>by have:=k.2;dsimp only at this;omega)]
 ·rw [JQ ⟨h1,h2,h3⟩ (by dsimp only;omega) (by dsimp only;omega)]
 ·rw [uI ⟨h1,h2,h3⟩ (by dsimp only;omega) (fun k=>by have:=k.1;dsimp only at this;omega)]
 ·rw [uH ⟨h1,h2,h3⟩ (fun k=>by have:=k.1;dsimp only at this;omega)]
 ·rw [mS (fun k=>by have:=k.2.1;dsimp only at this;rw [h2] at this;cases this)]
 ·rw [mS (fun k=>by have:=k.1;dsimp only at this;rw [h1] at this;cases this)]
def g9:FSpec Tryz.prog:=mkF 171 (.c (.g (.c .j (.c .j (.c .j (.c .j (.c .j (.c .j .z))))))) .z) [.int .i64] (fun x=>(fun (a b c p n d:Int)=>(True,cL (a,b,c,p,n,d),())) x.1.1 x.1.2.1 x.1.2.2.1 x.1.2.2.2.1 x.1.2.2.2.2.1 x.1.2.2.2.2.2.1) fun ⟨⟨a,b,c,p,n,d,_⟩,_⟩ _=>av (E:=fE a b c p n d) (ej a b c p n d) (ab rfl _ [] rfl rfl) Tryz.func171
def gJ (l:List Rt):Env:=ee
def dc (l:List Rt):Prop:=
 ((true=true->l.length=(0:Nat))->([],())=(l,()))/\((false=true->l.length=(0:Nat))->(((0:Nat)+l.length)*(48:Nat)<=(140737488355328:Nat)/\(0:Nat)+l.length<=(4611686018427387904:Nat)/\((0:Nat)<l.length∨(0:Nat)=(0:Nat)))/\(l,())=(l,()))
theorem fH (l:List Rt) (h:l.length<=1000000):dc l:=by
 unfold dc;refine ⟨fun e=> ?_,fun _=>⟨⟨by omega,by omega, .inr rfl⟩,rfl⟩⟩;have:=Rk (e rfl);rw [this]
def bV:FSpec Tryz.prog:=mkF 74 (.c (.l RTy) .z) [.slc 0 RTy] (fun x=>(fun (l:List Rt)=>(l.length<=1000000,l,())) x.1) fun ⟨l,_⟩ h=>av (E:=gJ l) (fH l h) (ab rfl [] [] rfl rfl) Tryz.func74
def mn (l m:List Rt):Env where
 P:=Tryz.prog
 ty:=aJ
 heads:=fun
  |4=>some {slots:=[(5, .int .i64)],boxes:=[],inv:=fun _ (x:Int×Unit)=>0<=x.1/\x.1<=l.length/\l.take x.1.toNat=m.take x.1.toNat,measure:=fun _ (x:Int×Unit)=>(l.length-x.1).toNat}
  |_=>none
def fz (l:List Rt) (m:List Rt):Prop:=
 ((!decide ((↑l.length:Int)=(↑m.length:Int)))=true->(false,())=(decide (l=m),()))/\((!decide ((↑l.length:Int)=(↑m.length:Int)))=false->(True/\0<=(0:Int)/\0<=(↑l.length:Int)/\List.take (Int.toNat 0) l=List.take (Int.toNat 0) m)/\∀(x:Int×Unit),0<=x.1/\x.1<=l.length/\List.take x.1.toNat l=List.take x.1.toNat m->(decide (x.1<l.length)=true->(0<=x.1/\x.1<l.length)/\∀(x_1:Int×Int×Int×Int×Int×Int),l[x.1.toNat]? =some x_1->(0<=x.1/\x.1<m.length)/\∀(x_2:Int×Int×Int×Int×Int×Int),m[x.1.toNat]? =some x_2->((!(decide (x_1.1=x_2.1)&&(decide (x_1.2.1=x_2.2.1)&&(decide (x_1.2.2.1=x_2.2.2.1)&&(decide (x_1.2.2.2.1=x_2.2.2.2.1)&&(decide (x_1.2.2.2.2.1=x_2.2.2.2.2.1)&&(decide (x_1.2.2.2.2.2=x_2.2.2.2.2.2)&&true)&&true))))))=true->(false,())=(decide (l=m),()))/\((!(decide (x_1.1=x_2.1)&&(decide (x_1.2.1=x_2.2.1)&&(decide (x_1.2.2.1=x_2.2.2.1)&&(decide (x_1.2.2.2.1=x_2.2.2.2.1)&&(decide (x_1.2.2.2.2.1=x_2.2.2.2.2.1)&&(decide (x_1.2.2.2.2.2=x_2.2.2.2.2.2)&&true)&&true))))))=false->(au (x.1+1))/\True/\(0<=x.1+1/\x.1+1<=l.length/\List.take (x.1+1).toNat l=List.take (x.1+1).toNat m)/\(l.length-(x.1+1)).toNat<(l.length-x.1).toNat))/\(decide (x.1<l.length)=false->(true,())=(decide (l=m),())))
theorem oL {α:Type} {l m:List α} {i:Nat} {x y:α} (h:l.take i=m.take i) (hx:l[i]? =some x) (hy:m[i]? =some y) (e:x=y):l.take (i+1)=m.take (i+1):=by
 rw [RD,RD,hx,hy,h,e]
theorem ku (l m:List Rt) (h:l.length<=1000000/\m.length<=1000000):fz l m:=by
 obtain ⟨h1,h2⟩:=h;unfold fz;simp only [Q7,Q6,Rb,Rd,Bool.and_true,Ri,RZ];refine ⟨fun k=> ?_,fun k=>⟨⟨trivial,by omega,by omega,rfl⟩, ?_⟩⟩
 ·rw [Rs (fun e=>k (by rw [e]))]
 rintro ⟨i,⟨⟩⟩ ⟨i0,i1,ht⟩;dsimp only at i0 i1 ht⊢;refine ⟨fun c=>⟨⟨i0,c⟩,fun x hx=>⟨⟨i0,by omega⟩,fun y hy=>⟨fun d=> ?_,fun d=>⟨by omega,trivial,⟨by omega,by omega, ?_⟩,by omega⟩⟩⟩⟩,fun c=> ?_⟩
 ·rw [Rs];intro e;subst e;rw [hx] at hy;cases hy;rcases d with d|d|d|d|d|d<;>exact d rfl
 ·rw [show (i+1).toNat=i.toNat+1 by omega];obtain ⟨x1,x2,x3,x4,x5,x6⟩:=x;obtain ⟨y1,y2,y3,y4,y5,y6⟩:=y;obtain ⟨d1,d2,d3,d4,d5,d6⟩:=d;dsimp only at d1 d2 d3 d4 d5 d6;exact oL ht hx hy (by rw [d1,d2,d3,d4,d5,d6])
 ·rw [Rh (by omega),Rh (by omega)] at ht;rw [RB ht]
def kW:FSpec Tryz.prog:=mkF 39 (.c (.l RTy) (.c (.l RTy) .z)) [.bool] (fun x=>(fun (l m:List Rt)=>(l.length<=1000000/\m.length<=1000000,decide (l=m),())) x.1 x.2.1) fun ⟨l,m,_⟩ h=>av (E:=mn l m) (ku l m h) (ab rfl [] [] rfl rfl) Tryz.func39
end Rts
end
section
namespace Cur
open Go.Vm
open Rts (bo nY jp)
def mR (c:Int):Env:=ee
def fL (c:Int):Prop:=
 (decide (1<=c)=true->(decide (c<=8),())=(bo c,()))/\(decide (1<=c)= !true->(false,())=(bo c,()))
theorem kK (c:Int):fL c:=by
 unfold fL bo;simp only [Q7,Q6,Rl,Prod.mk.injEq,and_true];refine ⟨fun h=>decide_eq_decide.2 (by omega),fun h=> ?_⟩;rw [Rs (by omega)]
set_option maxRecDepth 20000
def o9:FSpec Tryz.prog:=mkF 180 (.c .j .z) [.bool] (fun x=>(fun (c:Int)=>(True,bo c,())) x.1) fun ⟨c,_⟩ _=>av (E:=mR c) (kK c) (ab rfl [] [] rfl rfl) Tryz.func180
end Cur
end
section
namespace Lck
open Go.Vm
abbrev Lk:=Int×Int
def eu (e:Int):List Lk->Int->Int
 |[],o=>o
 |x::r,o=>eu e r (if x.1=e then max o x.2 else o)
theorem PW (a b:Int):mmI true a b=max a b:=by unfold mmI;simp only [if_true];split<;>omega
def aE (l:List Lk) (e:Int):Int:=eu e l (-1)
theorem dL {e:Int} {l:List Lk} {i o:Int} {x:Lk} (h0:0<=i) (hx:l[i.toNat]? =some x):eu e (l.drop i.toNat) o=eu e (l.drop (i+1).toNat) (if x.1=e then max o x.2 else o):=by
 obtain ⟨h1,h2⟩:=List.getElem?_eq_some_iff.1 hx;rw [Rw h1,h2,show (i+1).toNat=i.toNat+1 by omega];rfl
theorem JR {e:Int} {l:List Lk} {i o:Int} (h: ¬i<(l.length:Int)):eu e (l.drop i.toNat) o=o:=by
 rw [RC (by omega)];rfl
def iN (l:List Lk) (e:Int):Env where
 P:=Tryz.prog
 ty:=aJ
 heads:=fun|3=>some {slots:=[(10, .int .i64),(5, .int .i64)],boxes:=[],inv:=fun _ (x:Int×Int×Unit)=>0<=x.1/\x.1<=l.length/\aE l e=eu e (l.drop x.1.toNat) x.2.1,measure:=fun _ (x:Int×Int×Unit)=>(l.length-x.1).toNat}|_=>none
def dM (l:List Lk) (e:Int):Prop:=
 (True/\0<=(0:Int)/\0<=(↑l.length:Int)/\aE l e=eu e (List.drop (Int.toNat 0) l) (-1))/\∀(x:Int×Int×Unit),0<=x.1/\x.1<=l.length/\aE l e=eu e (List.drop x.1.toNat l) x.2.1->(ag (x.1<l.length)->(0<=x.1/\x.1<l.length)/\∀(x_1:Int×Int),l[x.1.toNat]? =some x_1->(ag (x_1.1=e)->(au (x.1+1))/\True/\(0<=x.1+1/\x.1+1<=l.length/\aE l e=eu e (List.drop (x.1+1).toNat l) (mmI true x.2.1 x_1.2))/\(l.length-(x.1+1)).toNat<(l.length-x.1).toNat)/\(aj (x_1.1=e)->(au (x.1+1))/\True/\(0<=x.1+1/\x.1+1<=l.length/\aE l e=eu e (List.drop (x.1+1).toNat l) x.2.1)/\(l.length-(x.1+1)).toNat<(l.length-x.1).toNat))/\(aj (x.1<l.length)->(x.2.1,())=(aE l e,()))
theorem gA (l:List Lk) (e:Int) (h:l.length<=1000000000):dM l e:=by
 unfold dM aj ag;simp only [Q7,Q6];refine ⟨⟨trivial,by omega,by omega,rfl⟩, ?_⟩;rintro ⟨i,o,⟨⟩⟩ ⟨h0,h1,hb⟩;dsimp only at h0 h1 hb⊢;refine ⟨fun c=>⟨⟨h0,c⟩,fun x hx=>⟨fun k=>⟨by omega,trivial,⟨by omega,by omega, ?_⟩,by omega⟩,fun k=>⟨by omega,trivial,⟨by omega,by omega, ?_⟩,by omega⟩⟩⟩,fun c=> ?_⟩
 ·rw [hb,dL h0 hx,Q_ k,PW]
 ·rw [hb,dL h0 hx,Q8 k]
 ·rw [hb,JR c]
set_option maxRecDepth 20000
def kU:FSpec Tryz.prog:=mkF 227 (.c (.l Vl) (.c .j .z)) [.int .i64] (fun x=>(fun (l:List Lk) (e:Int)=>(l.length<=1000000000,aE l e,())) x.1 x.2.1) fun ⟨l,e,_⟩ h=>av (E:=iN l e) (gA l e h) (ab rfl [] [] rfl rfl) Tryz.func227
def lkP (l:List Lk) (p e:Int):Bool:=decide (p<=aE l e)
def NF (l:List Lk) (p e:Int):Env where
 P:=Tryz.prog
 ty:=aJ
 specs:=ai [kU]
 frz:=fun|8=>true|_=>false
def xH (l:List Lk) (p:Int) (e:Int):Prop:=
 l.length<=(1000000000:Nat)/\(decide (p<=aE l e),())=(lkP l p e,())
theorem JS (l:List Lk) (p e:Int) (h:l.length<=1000000000):xH l p e:=by
 unfold xH;exact ⟨h,rfl⟩
def PX:FSpec Tryz.prog:=mkF 226 (.c .j (.c (.f (.c .j .z)) (.c (.f (.c (.l Vl) .z)) .z))) [.bool] (fun x=>(fun (l:List Lk) (p e:Int)=>(l.length<=1000000000,lkP l p e,())) x.2.2.1.1 x.2.1.1 x.1) fun ⟨e,⟨p,_⟩,⟨l,_⟩,_⟩ h=>av (E:=NF l p e) (JS l p e h) (ab rfl _ [] rfl rfl) Tryz.func226
def uK (xs:List Int) (l:List Lk) (p:Int):Env where
 P:=Tryz.prog
 ty:=aJ
 specs:=ai [PX]
 heads:=fun|2=>some {slots:=[(8, .int .i64)],boxes:=[],inv:=fun _ (x:Int×Unit)=>0<=x.1/\x.1<=xs.length/\bj (lkP l p) xs=bm (lkP l p) (xs.drop x.1.toNat) x.1,measure:=fun _ (x:Int×Unit)=>(xs.length-x.1).toNat}|_=>none
def i_ (xs:List Int) (l:List Lk) (p:Int):Prop:=
 (True/\0<=(0:Int)/\0<=(↑xs.length:Int)/\bj (lkP l p) xs=bm (lkP l p) (List.drop (Int.toNat 0) xs) 0)/\∀(x:Int×Unit),0<=x.1/\x.1<=xs.length/\bj (lkP l p) xs=bm (lkP l p) (List.drop x.1.toNat xs) x.1->(ag (x.1<xs.length)->(0<=x.1/\x.1<xs.length)/\∀(x_1:Int),xs[x.1.toNat]? =some x_1->l.length<=(1000000000:Nat)/\(lkP l p x_1=true->(x.1,())=(bj (lkP l p) xs,()))/\(lkP l p x_1=false->(au (x.1+1))/\True/\(0<=x.1+1/\x.1+1<=xs.length/\bj (lkP l p) xs=bm (lkP l p) (List.drop (x.1+1).toNat xs) (x.1+1))/\(xs.length-(x.1+1)).toNat<(xs.length-x.1).toNat))/\(aj (x.1<xs.length)->((-1:Int),())=(bj (lkP l p) xs,()))
theorem qs (xs:List Int) (l:List Lk) (p:Int) (h:xs.length<=1000000000/\l.length<=1000000000):i_ xs l p:=by
 unfold i_ aj ag;simp only [Q7,Q6];obtain ⟨ha,hl⟩:=h;refine ⟨⟨trivial,by omega,by omega,rfl⟩, ?_⟩;rintro ⟨i,⟨⟩⟩ ⟨h0,h1,hb⟩;dsimp only at h0 h1 hb⊢;rw [hb];refine ⟨fun c=>⟨⟨h0,c⟩,fun x hx=>⟨hl,fun k=> ?_,fun k=>⟨by omega,trivial,⟨by omega,by omega, ?_⟩,by omega⟩⟩⟩,fun c=> ?_⟩
 ·rw [ga h0 hx k]
 ·rw [dW h0 hx k]
 ·rw [gb c]
def AS:FSpec Tryz.prog:=mkF 243 (.c (.l I) (.c (.n 226 .z (.c (.f (.c .j .z)) (.c (.f (.c (.l Vl) .z)) .z))) .z)) [.int .i64] (fun x=>(fun (xs:List Int) (l:List Lk) (p:Int)=>(xs.length<=1000000000/\l.length<=1000000000,bj (lkP l p) xs,())) x.1 x.2.1.2.2.1.1 x.2.1.2.1.1) fun ⟨xs,⟨_,⟨⟨p,_⟩,⟨l,_⟩,_⟩⟩,_⟩ h=>av (E:=uK xs l p) (qs xs l p h) (ab rfl _ [] rfl rfl) Tryz.func243
def qt (xs:List Int) (l:List Lk) (p:Int):Env where
 P:=Tryz.prog
 ty:=aJ
 specs:=ai [AS]
def gM (xs:List Int) (l:List Lk) (p:Int):Prop:=
 (xs.length<=(1000000000:Nat)/\l.length<=(1000000000:Nat))/\(decide (0<=bj (lkP l p) xs),())=(xs.any (lkP l p),())
theorem mT (xs:List Int) (l:List Lk) (p:Int) (h:xs.length<=1000000000/\l.length<=1000000000):gM xs l p:=by
 unfold gM;exact ⟨h,by rw [jy]⟩
def oP:FSpec Tryz.prog:=mkF 225 (.c (.l I) (.c (.n 226 .z (.c (.f (.c .j .z)) (.c (.f (.c (.l Vl) .z)) .z))) .z)) [.bool] (fun x=>(fun (xs:List Int) (l:List Lk) (p:Int)=>(xs.length<=1000000000/\l.length<=1000000000,xs.any (lkP l p),())) x.1 x.2.1.2.2.1.1 x.2.1.2.1.1) fun ⟨xs,⟨_,⟨⟨p,_⟩,⟨l,_⟩,_⟩⟩,_⟩ h=>av (E:=qt xs l p) (mT xs l p h) (ab rfl _ [] rfl rfl) Tryz.func225
def AT (l:List Lk) (p:Int) (xs:List Int):Env where
 P:=Tryz.prog
 ty:=aJ
 specs:=ai [oP]
def nZ (l:List Lk) (p:Int) (xs:List Int):Prop:=
 (xs.length<=(1000000000:Nat)/\l.length<=(1000000000:Nat))/\(xs.any (lkP l p),())=(xs.any (lkP l p),())
theorem xI (l:List Lk) (p:Int) (xs:List Int) (h:xs.length<=1000000000/\l.length<=1000000000):nZ l p xs:=by
 unfold nZ;exact ⟨h,rfl⟩
def mI:FSpec Tryz.prog:=mkF 195 (.c (.l Vl) (.c .j (.c (.l I) .z))) [.bool] (fun x=>(fun (l:List Lk) (p:Int) (xs:List Int)=>(xs.length<=1000000000/\l.length<=1000000000,xs.any (lkP l p),())) x.1 x.2.1 x.2.2.1) fun ⟨l,p,xs,_⟩ h=>av (E:=AT l p xs) (xI l p xs h) (ab rfl _ [] rfl rfl) Tryz.func195
def bz (l:List Lk) (a b n:Int):Int:=if a<1∨n<a then 20 else if b<0∨23<b then 22 else if [a].any (lkP l b) then 35 else 0
def ic (l:List Lk) (a b n:Int):Env where
 P:=Tryz.prog
 ty:=aJ
 specs:=ai [mI]
def da (l:List Lk) (a:Int) (b:Int) (n:Int):Prop:=
 (decide (a<1)=false->(decide (n<a)=true->((20:Int),())=(bz l a b n,()))/\(decide (n<a)=false->(decide (b<0)=false->(decide (24<=b)=true->((22:Int),())=(bz l a b n,()))/\(decide (24<=b)=false->((1:Nat)<=(1000000000:Nat)/\l.length<=(1000000000:Nat))/\([a].any (lkP l b)=true->((35:Int),())=(bz l a b n,()))/\([a].any (lkP l b)=false->((0:Int),())=(bz l a b n,()))))/\(decide (b<0)= !false->((22:Int),())=(bz l a b n,()))))/\(decide (a<1)= !false->((20:Int),())=(bz l a b n,()))
theorem fF (l:List Lk) (a b n:Int) (h:l.length<=1000000000):da l a b n:=by
 unfold da bz;simp only [Q7,Q6];repeat' (first|with_reducible apply And.intro|intro _)
 all_goals (try congr 1)
 all_goals repeat' split
 all_goals first|rfl|omega|(simp_all;done)|(simp_all;omega)
def iM:FSpec Tryz.prog:=mkF 189 (.c (.l Vl) (.c (.g (.c .j (.c .j .z))) (.c .j .z))) [.int .i64] (fun x=>(fun (l:List Lk) (a b n:Int)=>(l.length<=1000000000,bz l a b n,())) x.1 x.2.1.1 x.2.1.2.1 x.2.2.1) fun ⟨l,⟨a,b,_⟩,n,_⟩ h=>av (E:=ic l a b n) (fF l a b n h) (ab rfl _ [] rfl rfl) Tryz.func189
def lkR (l:List Lk) (p e:Int):Bool:=decide (p<0)||l.any fun x=>decide (x.1=e)&&decide (p<=x.2)
def xJ (l:List Lk) (p e:Int):Env where
 P:=Tryz.prog
 ty:=aJ
 heads:=fun|4=>some {slots:=[(7, .int .i64)],boxes:=[],inv:=fun _ (x:Int×Unit)=>0<=x.1/\x.1<=l.length/\bj (fun x=>decide (x.1=e)&&decide (p<=x.2)) l=bm (fun x=>decide (x.1=e)&&decide (p<=x.2)) (l.drop x.1.toNat) x.1,measure:=fun _ (x:Int×Unit)=>(l.length-x.1).toNat}|_=>none
def lC (l:List Lk) (p:Int) (e:Int):Prop:=
 (ag (p<0)->(true,())=(lkR l p e,()))/\(aj (p<0)->(True/\0<=(0:Int)/\0<=(↑l.length:Int)/\bj (fun x=>decide (x.1=e)&&decide (p<=x.2)) l=bm (fun x=>decide (x.1=e)&&decide (p<=x.2)) (List.drop (Int.toNat 0) l) 0)/\∀(x:Int×Unit),0<=x.1/\x.1<=l.length/\bj (fun x=>decide (x.1=e)&&decide (p<=x.2)) l=bm (fun x=>decide (x.1=e)&&decide (p<=x.2)) (List.drop x.1.toNat l) x.1->(ag (x.1<l.length)->(0<=x.1/\x.1<l.length)/\∀(x_1:Int×Int),l[x.1.toNat]? =some x_1->(ag (x_1.1=e)->(0<=x.1/\x.1<l.length)/\∀(x_2:Int×Int),l[x.1.toNat]? =some x_2->(ag (p<=x_2.2)->(true,())=(lkR l p e,()))/\(aj (p<=x_2.2)->(au (x.1+1))/\True/\(0<=x.1+1/\x.1+1<=l.length/\bj (fun x=>decide (x.1=e)&&decide (p<=x.2)) l=bm (fun x=>decide (x.1=e)&&decide (p<=x.2)) (List.drop (x.1+1).toNat l) (x.1+1))/\(l.length-(x.1+1)).toNat<(l.length-x.1).toNat))/\(aP (x_1.1=e)->(au (x.1+1))/\True/\(0<=x.1+1/\x.1+1<=l.length/\bj (fun x=>decide (x.1=e)&&decide (p<=x.2)) l=bm (fun x=>decide (x.1=e)&&decide (p<=x.2)) (List.drop (x.1+1).toNat l) (x.1+1))/\(l.length-(x.1+1)).toNat<(l.length-x.1).toNat))/\(aj (x.1<l.length)->(false,())=(lkR l p e,())))
theorem uL (l:List Lk) (p e:Int) (h:l.length<=1000000000):lC l p e:=by
 unfold lC aj aP ag lkR;rw [<-jy];simp only [Q7,Q6];refine ⟨fun c=>by simp [c],fun c=> ?_⟩;simp only [c,decide_false,Bool.false_or];refine ⟨⟨trivial,by omega,by omega,rfl⟩, ?_⟩;rintro ⟨i,⟨⟩⟩ ⟨h0,h1,hb⟩;dsimp only at h0 h1 hb⊢;refine ⟨fun d=>⟨⟨h0,d⟩,fun x hx=>⟨fun k=>⟨⟨h0,d⟩,fun y hy=>⟨fun m=> ?_,fun m=>⟨by omega,trivial,⟨by omega,by omega, ?_⟩,by omega⟩⟩⟩,fun k=>⟨by omega,trivial,⟨by omega,by omega, ?_⟩,by omega⟩⟩⟩,fun d=> ?_⟩
 ·rw [hx] at hy;cases hy;rw [hb,ga h0 hx (by simp [k,m])];simp [h0]
 ·rw [hx] at hy;cases hy;rw [hb,dW h0 hx (by simp [m])]
 ·rw [hb,dW h0 hx (by simp at k;simp [k])]
 ·rw [hb,gb d];rfl
def pc:FSpec Tryz.prog:=mkF 178 (.c (.l Vl) (.c .j (.c .j .z))) [.bool] (fun x=>(fun (l:List Lk) (p e:Int)=>(l.length<=1000000000,lkR l p e,())) x.1 x.2.1 x.2.2.1) fun ⟨l,p,e,_⟩ h=>av (E:=xJ l p e) (uL l p e h) (ab rfl [] [] rfl rfl) Tryz.func178
theorem mj {e p:Int}: ∀(l:List Lk) (o:Int),p<=eu e l o↔(p<=o∨l.any (fun x=>decide (x.1=e)&&decide (p<=x.2))=true)
 |[],o=>by simp [eu]
 |x::r,o=>by
  rw [eu,mj r,Sr];by_cases c:x.1=e
  ·simp only [c,if_true,decide_true,SG,RT,Q7];rw [show p<=max o x.2↔(p<=o∨p<=x.2) by omega,or_assoc]
  ·simp only [c,if_false,decide_false,Bool.false_and,Bool.false_or]
theorem OM (l:List Lk) (p e:Int) (h:0<=p):lkR l p e=lkP l p e:=by
 unfold lkR lkP aE;rw [Bool.eq_iff_iff,Q7,mj,RT,Q7];constructor
 ·rintro (h1|h1)
  ·omega
  ·exact .inr h1
 ·rintro (h1|h1)
  ·omega
  ·exact .inr h1
def fE (l:List Lk) (a b n:Int):Env where
 P:=Tryz.prog
 ty:=aJ
 specs:=ai [pc]
def cy (l:List Lk) (a:Int) (b:Int) (n:Int):Prop:=
 (decide (a<1)=false->(decide (n<a)=true->((20:Int),())=(bz l a b n,()))/\(decide (n<a)=false->(decide (b<0)=false->(decide (23<b)=true->((22:Int),())=(bz l a b n,()))/\(decide (23<b)=false->l.length<=(1000000000:Nat)/\(lkR l b a=true->((35:Int),())=(bz l a b n,()))/\(lkR l b a=false->((0:Int),())=(bz l a b n,()))))/\(decide (b<0)= !false->((22:Int),())=(bz l a b n,()))))/\(decide (a<1)= !false->((20:Int),())=(bz l a b n,()))
theorem ej (l:List Lk) (a b n:Int) (h:l.length<=1000000000):cy l a b n:=by
 unfold cy bz;simp only [Q7,Q6];rw [show [a].any (lkP l b)=lkP l b a by simp];repeat' (first|with_reducible apply And.intro|intro _)
 all_goals (try congr 1)
 all_goals repeat' split
 all_goals (try simp only [OM l b a (by omega)] at*)
 all_goals first|rfl|omega|(simp_all;done)|(simp_all;omega)
def g9:FSpec Tryz.prog:=mkF 173 (.c (.l Vl) (.c (.g (.c .j (.c .j .z))) (.c .j .z))) [.int .i64] (fun x=>(fun (l:List Lk) (a b n:Int)=>(l.length<=1000000000,bz l a b n,())) x.1 x.2.1.1 x.2.1.2.1 x.2.2.1) fun ⟨l,⟨a,b,_⟩,n,_⟩ h=>av (E:=fE l a b n) (ej l a b n h) (ab rfl _ [] rfl rfl) Tryz.func173
end Lck
end
end
end Go.Proofs.YtabicbgeoiilmaaGreatDoor
