import Derived.Test.YtabicbgeoiilmaaGreatDoorSeat
import Derived.Shelf.Spec.BitsCarry
namespace Go.Proofs.YtabicbgeoiilmaaGreatDoor
noncomputable section
set_option linter.unusedVariables false
section
open Go.Vm
def aD (n:Nat):List Int:=if h:n=0 then [] else ((n%10:Nat):Int)::aD (n/10)
termination_by n
decreasing_by omega
theorem bT:aD 0=[]:=by unfold aD;simp
theorem dA {n:Nat} (h:n≠0):aD n=((n%10:Nat):Int)::aD (n/10):=by
 rw [aD,dif_neg h]
def InI (n:Int):Prop:= -9223372036854775808<=n/\n<=9223372036854775807
def j8 (n x:Int) (D:List Int):Prop:=D++aD x.natAbs=aD n.natAbs/\(0<=n->0<=x)/\(n<0->x<=0)/\x.natAbs*10 ^ D.length<=n.natAbs
theorem NG (n:Int):j8 n n []:=⟨by simp,fun h=>h,fun h=>by omega,by simp⟩
theorem sI {n x:Int} {D:List Int} (h:j8 n x D) (hx: ¬x=0) (hn:InI n):D.length<=19:=by
 obtain ⟨_,_,_,h4⟩:=h;by_cases hl:D.length<=19
 ·exact hl
 ·exfalso;have h1:10 ^ 20<=10 ^ D.length:=Nat.pow_le_pow_right (by omega) (by omega);have h2:1*10 ^ D.length<=x.natAbs*10 ^ D.length:=RN _ (by omega);obtain ⟨h5,h6⟩:=hn;omega
theorem qu {n x d:Int} {D:List Int} (h:j8 n x D) (hx: ¬x=0) (hd:d=(x.natAbs%10:Nat)):j8 n (x.tdiv 10) (D++[d]):=by
 obtain ⟨h1,h2,h3,h4⟩:=h;have e:(x.tdiv 10).natAbs=x.natAbs/10:=by rw [Int.natAbs_tdiv];rfl
 refine ⟨?_,fun h=>Int.tdiv_nonneg (h2 h) (by omega),fun h=> ?_, ?_⟩
 ·rw [e,RA,hd,<-h1,dA (n:=x.natAbs) (by omega)];rfl
 ·have:=h3 h;have h5:(-x).tdiv 10= -(x.tdiv 10):=Int.neg_tdiv ..;have h6:0<=(-x).tdiv 10:=Int.tdiv_nonneg (by omega) (by omega);omega
 ·rw [e];simp only [Re,Rm,Nat.pow_succ];have:x.natAbs/10*(10 ^ D.length*10)<=x.natAbs*10 ^ D.length:=by
   rw [Nat.mul_comm (10 ^ D.length) 10,<-Nat.mul_assoc];exact RN _ (Nat.div_mul_le_self _ _)
  omega
theorem FF {n x:Int} {D:List Int} (h:j8 n x D) (hx:x=0):D=aD n.natAbs:=by
 obtain ⟨h1,_⟩:=h;subst hx;simpa [bT] using h1
theorem PY (x:Int):(x.tmod 10).natAbs=x.natAbs%10:=by rw [Int.natAbs_tmod];rfl
theorem PZ (x:Int):(x.tdiv 10).natAbs=x.natAbs/10:=by rw [Int.natAbs_tdiv];rfl
def P1 (n:Int):Env where
 P:=Tryz.prog
 ty:=aJ
 heads:=fun
  |3=>some {slots:=[(4, .int .i64)],boxes:=[(3,[.bool, .slc 5000 I])],keep:=[2],inv:=fun _ (x:Int×Bool×List Int×Unit)=>x.2.1=decide (n<0)/\j8 n x.1 x.2.2.1,measure:=fun _ (x:Int×Bool×List Int×Unit)=>x.1.natAbs}
  |_=>none
abbrev P2:Ann:={slots:=bB 0 [.bool, .slc 5000 I],boxes:=[],inv:=fun _ _=>True}
def NH (n:Int):Prop:=
 ((some (Obj.box [V.kb false,V.nils])=some (Obj.box [V.kb false,V.nils])/\True)/\decide (n<0)=decide (n<0)/\j8 n n [])/\∀(x:Int×Bool×List Int×Unit),x.2.1=decide (n<0)/\j8 n x.1 x.2.2.1->((!decide (x.1=0))=true->(10:Int)≠(0:Int)/\(decide (x.1.tmod 10<(0:Int))=true->(au ((0:Int)-x.1.tmod 10))/\((x.2.2.1.length+(1:Nat))*(8:Nat)<=(140737488355328:Nat)/\x.2.2.1.length+(1:Nat)<=(4611686018427387904:Nat))/\(10:Int)≠(0:Int)/\(au (x.1.tdiv 10))/\(some (Obj.box [V.kb false,V.nils])=some (Obj.box [V.kb false,V.nils])/\True)/\(x.2.1=decide (n<0)/\j8 n (x.1.tdiv 10) (x.2.2.1++[(0:Int)-x.1.tmod 10]))/\(x.1.tdiv 10).natAbs<x.1.natAbs)/\(decide (x.1.tmod 10<(0:Int))=false->((x.2.2.1.length+(1:Nat))*(8:Nat)<=(140737488355328:Nat)/\x.2.2.1.length+(1:Nat)<=(4611686018427387904:Nat))/\(10:Int)≠(0:Int)/\(au (x.1.tdiv 10))/\(some (Obj.box [V.kb false,V.nils])=some (Obj.box [V.kb false,V.nils])/\True)/\(x.2.1=decide (n<0)/\j8 n (x.1.tdiv 10) (x.2.2.1++[x.1.tmod 10]))/\(x.1.tdiv 10).natAbs<x.1.natAbs))/\((!decide (x.1=0))=false->True/\(x.2.1,x.2.2.1,())=(decide (n<0),aD n.natAbs,()))
theorem NI (n:Int) (h:InI n):NH n:=by
 refine ⟨⟨⟨rfl,trivial⟩,rfl,NG n⟩, ?_⟩;rintro ⟨x,b,D,⟨⟩⟩ ⟨rfl,hI⟩;simp only [Q7,Q6,Rb,Rd] at*;have h10:=PY x;have hd10:=PZ x;obtain ⟨l1,l2⟩:=h;have hb:x.natAbs<=n.natAbs:=by
  have h4:=hI.2.2.2;have:x.natAbs*1<=x.natAbs*10 ^ D.length:=Nat.mul_le_mul_left _ (Nat.pow_pos (by omega));omega
 refine ⟨fun hx=>⟨by omega,fun hm=> ?_,fun hm=> ?_⟩,fun hx=>⟨trivial, ?_⟩⟩
 ·have hl:=sI hI hx ⟨l1,l2⟩;exact ⟨by omega,by omega,by omega,by omega,⟨trivial,trivial⟩,⟨trivial,qu hI hx (by omega)⟩,by omega⟩
 ·have hl:=sI hI hx ⟨l1,l2⟩;exact ⟨by omega,by omega,by omega,⟨trivial,trivial⟩,⟨trivial,qu hI hx (by omega)⟩,by omega⟩
 ·rw [FF hI hx]
set_option maxRecDepth 20000
def JE:FSpec Tryz.prog:=mkG 50 (.c .j .z) (fun x=>(fun (n:Int)=>(InI n,(.agg [.bool (decide (n<0)), .olist I (aD n.natAbs)]))) x.1) fun ⟨n,_⟩ h=>Pure.of_condG (E:=P1 n) (sh:=[some 2]) (ann:=P2) (x:=(fun (n:Int)=>(decide (n<0),aD n.natAbs,())) n) (by kernel_rfl) (NI n h) rfl (ab rfl [] [] rfl rfl) mixed Tryz.func50
end
section
open Go.Vm
def val:List Int->Int
 |[]=>0
 |d::r=>d+10*val r
def Dig (l:List Int):Prop:= ∀d∈l,0<=d/\d<=9
def Can (l:List Int):Prop:=l=aD (val l).toNat
theorem lD:Dig []:=fun d h=>by simp at h
theorem fM {d:Int} {l:List Int}:Dig (d::l)↔(0<=d/\d<=9)/\Dig l:=by simp [Dig]
theorem uM {l m:List Int}:Dig (l++m)↔Dig l/\Dig m:=by
 constructor
 ·exact fun h=>⟨fun d hd=>h d (by simp [hd]),fun d hd=>h d (by simp [hd])⟩
 ·rintro ⟨h1,h2⟩ d hd;rcases Rn.1 hd with h|h
  ·exact h1 d h
  ·exact h2 d h
theorem gi {l:List Int} (h:Dig l) {i:Nat} {d:Int} (hd:l[i]? =some d):0<=d/\d<=9:=h d (Rr hd)
theorem fN {l:List Int} (h:Dig l) (n:Nat):Dig (l.take n):=fun d hd=>h d (Sl hd)
theorem bK: ∀{l:List Int},Dig l->0<=val l
 |[],_=>by simp [val]
 |d::r,h=>by
  obtain ⟨h1,h2⟩:=fM.1 h;have:=bK h2;simp only [val];omega
theorem jD: ∀(l m:List Int),val (l++m)=val l+10 ^ l.length*val m
 |[],m=>by simp [val]
 |d::r,m=>by
  simp only [RP,val,jD r m,Rj,SE];rw [Int.mul_add,<-Int.mul_assoc,Int.mul_comm 10 (10 ^ r.length)];omega
theorem kL: ∀{l:List Int},Dig l->val l<10 ^ l.length
 |[],_=>by simp [val]
 |d::r,h=>by
  obtain ⟨h1,h2⟩:=fM.1 h;have:=kL h2;simp only [val,Rj,SE];omega
theorem gN (n:Nat):val (aD n)=n:=by
 induction n using Nat.strongRecOn with
 |ind n ih=>
  by_cases h:n=0
  ·subst h;simp [bT,val]
  ·rw [dA h];simp only [val,ih (n/10) (by omega)];omega
theorem qv (n:Nat):Dig (aD n):=by
 induction n using Nat.strongRecOn with
 |ind n ih=>
  by_cases h:n=0
  ·subst h;rw [bT];exact lD
  ·rw [dA h,fM];exact ⟨by omega,ih (n/10) (by omega)⟩
theorem xK (n:Nat):Can (aD n):=by unfold Can;rw [gN];rfl
theorem Can.dig {l:List Int} (h:Can l):Dig l:=by rw [h];exact qv _
theorem NJ:Can []:=by simp [Can,val,bT]
theorem fK {n:Nat}:aD n=[]↔n=0:=by
 constructor
 ·intro h;by_cases h0:n=0
  ·exact h0
  ·rw [dA h0] at h;cases h
 ·rintro rfl;exact bT
theorem Can.nonneg {l:List Int} (h:Can l):0<=val l:=bK h.dig
theorem Can.nil_iff {l:List Int} (h:Can l):l=[]↔val l=0:=by
 have:=h.nonneg;rw [h,fK,gN];omega
theorem n0: ∀{l:List Int},Dig l->(∀d,l.getLast? =some d->d≠0)->Can l
 |[],_,_=>NJ
 |[d],h,hl=>by
  obtain ⟨h1,_⟩:=fM.1 h;have h0:d≠0:=hl d rfl;unfold Can;simp only [val,Int.mul_zero,Sc];rw [dA (by omega),show d.toNat/10=0 by omega,bT];congr 1;omega
 |d::e::r,h,hl=>by
  obtain ⟨h1,h2⟩:=fM.1 h;have ih:=n0 h2 (fun x hx=>hl x (by rw [List.getLast?_cons_cons];exact hx));have hv:=ih.nonneg;have hne:val (e::r)≠0:=fun h0=>by have:=ih.nil_iff.2 h0;cases this
  show d::e::r=aD (d+10*val (e::r)).toNat;rw [dA (by omega),show (d+10*val (e::r)).toNat/10=(val (e::r)).toNat by omega,<-ih];congr 1;omega
theorem mU: ∀{l:List Int},(∀d∈l,d=0)->val l=0
 |[],_=>rfl
 |d::r,h=>by
  have h1:=h d (by simp);have h2:=mU (l:=r) (fun x hx=>h x (Rq _ hx));simp only [val,h1,h2];rfl
theorem jE (l:List Int) (n:Nat):val l=val (l.take n)+10 ^ (l.take n).length*val (l.drop n):=by
 rw [<-jD,Si]
theorem JT {l:List Int} (h:Dig l) {n:Nat} (hn:n<=l.length) (hz: ∀i d,n<=i->l[i]? =some d->d=0) (hl:0<n->∀d,l[n-1]? =some d->d≠0):l.take n=aD (val l).toNat:=by
 have h0:val (l.drop n)=0:=mU fun d hd=>by
  obtain ⟨j,hj⟩:=List.getElem?_of_mem hd;rw [List.getElem?_drop] at hj;exact hz _ d (by omega) hj
 have hv:val l=val (l.take n):=by
  have:=jE l n;rw [h0] at this;simpa using this
 rw [hv];refine n0 (fN h n) (fun d hd=> ?_);rw [List.getLast?_eq_getElem?,Rz,Sg hn] at hd;have hn0:0<n:=by
  cases n with
  |zero=>simp at hd
  |succ n=>omega
 rw [List.getElem?_take,Q_ (by omega)] at hd;exact hl hn0 d hd
theorem Db {l:List Int} (h:Can l) (hl:l≠[]):10 ^ (l.length-1)<=val l:=by
 have hc: ∀(n:Nat),n≠0->(10:Int) ^ ((aD n).length-1)<=n:=by
  intro n;induction n using Nat.strongRecOn with
  |ind n ih=>
   intro hn;rw [dA hn];simp only [Rj,Nat.add_sub_cancel];by_cases h0:n/10=0
   ·rw [h0,bT];simp;omega
   ·have:=ih (n/10) (by omega) h0;have hp:(aD (n/10)).length=((aD (n/10)).length-1)+1:=by
     have:aD (n/10)≠[]:=fun e=>h0 (fK.1 e);have:0<(aD (n/10)).length:=List.length_pos_iff.2 this;omega
    rw [hp,SE];omega
 have hv:=h.nonneg;have hne:(val l).toNat≠0:=fun e=>hl (h.nil_iff.2 (by omega));have:=hc _ hne;rw [<-h] at this;omega
theorem AU {a b:Nat} (h:a<=b):(10:Int) ^ a<=10 ^ b:=by
 obtain ⟨c,rfl⟩:=Nat.exists_eq_add_of_le h;rw [Int.pow_add];have h1:(1:Int)<=10 ^ c:=by
  have:0<(10:Int) ^ c:=Int.pow_pos (by omega);omega
 have h2:(0:Int)<=10 ^ a:=Int.le_of_lt (Int.pow_pos (by omega));calc (10:Int) ^ a=10 ^ a*1:=by rw [Int.mul_one]
  _<=10 ^ a*10 ^ c:=Int.mul_le_mul_of_nonneg_left h1 h2
theorem kM {l m:List Int} (h:Can l) (k:Can m) (hl:l.length<m.length):val l<val m:=by
 have h1:=kL h.dig;have h2:=Db k (fun e=>by rw [e] at hl;simp at hl);have h3:=AU (a:=l.length) (b:=m.length-1) (by omega);omega
theorem AV {l m:List Int} (h:Can l) (k:Can m) (hv:val l<=val m):l.length<=m.length:=by
 by_cases hl:l.length<=m.length
 ·exact hl
 ·have:=kM k h (by omega);omega
theorem eN {n k:Nat} (h:n<10 ^ k):(aD n).length<=k:=by
 by_cases hl:(aD n).length<=k
 ·exact hl
 ·exfalso;have h1:=Db (xK n) (fun e=>by rw [e] at hl;simp at hl);rw [gN] at h1;have h2:=AU (a:=k) (b:=(aD n).length-1) (by omega);have h3:((10 ^ k:Nat):Int)=10 ^ k:=by simp
  omega
theorem FG {l:List Int} {i:Nat} {d:Int} (hd:l[i]? =some d):l.take (i+1)=l.take i++[d]:=by
 rw [RD,hd];rfl
theorem gr {l:List Int} {i:Nat} {d:Int} (hd:l[i]? =some d):val (l.take (i+1))=val (l.take i)+10 ^ i*d:=by
 have hi:=(List.getElem?_eq_some_iff.1 hd).1;rw [FG hd,jD,Rz,Sg (by omega)];simp [val]
theorem gO {l:List Int} {i:Nat} (h:l.length<=i):l.take i=l:=Rh h
theorem Dc {l m:List Int} (h:Dig l) (k:Dig m) (hlen:l.length=m.length) {i:Nat} {a b:Int} (ha:l[i]? =some a) (hb:m[i]? =some b) (hd:l.drop (i+1)=m.drop (i+1)) (hab:a<b):val l<val m:=by
 have hi:=(List.getElem?_eq_some_iff.1 ha).1;have e1:=jE l (i+1);have e2:=jE m (i+1);rw [gr ha,Rz,Sg (by omega)] at e1;rw [gr hb,Rz,Sg (by omega)] at e2;rw [hd] at e1;have h1:=kL (fN h i);have h2:=bK (fN k i);rw [Rz,Sg (by omega)] at h1;have hp:(0:Int)<10 ^ i:=Int.pow_pos (by omega);have h3:(10:Int) ^ i*(a+1)<=10 ^ i*b:=Int.mul_le_mul_of_nonneg_left (by omega) (Int.le_of_lt hp);rw [Int.mul_add,Int.mul_one] at h3;omega
def at0 (l:List Int) (i:Nat):Int:=(l[i]?).getD 0
theorem eH {l:List Int} (h:Dig l) (i:Nat):0<=at0 l i/\at0 l i<=9:=by
 unfold at0;cases hx:l[i]? with
 |none=>simp
 |some d=>exact gi h hx
theorem fO {l:List Int} {i:Nat} {d:Int} (h:l[i]? =some d):at0 l i=d:=by simp [at0,h]
theorem eO {l:List Int} {i:Nat} (h:l.length<=i):at0 l i=0:=by simp [at0,h]
theorem dP (l:List Int) (i:Nat):val (l.take (i+1))=val (l.take i)+10 ^ i*at0 l i:=by
 cases hx:l[i]? with
 |none=>
  have:=List.getElem?_eq_none_iff.1 hx;rw [gO this,gO (by omega),eO this];simp
 |some d=>rw [gr hx,fO hx]
def gj (l m:List Int) (i c:Int) (o:List Int):Prop:=0<=i/\0<=c/\c<=1/\i<=l.length+m.length+1/\(o.length:Int)=i/\Dig o/\val o+10 ^ i.toNat*c=val (l.take i.toNat)+val (m.take i.toNat)/\(l.length+m.length<i->c=0)
theorem P3 (l m:List Int):gj l m 0 0 []:=⟨by omega,by omega,by omega,by omega,by simp,lD,by simp [val],fun _=>rfl⟩
theorem FH {l m o:List Int} {i c d:Int} (hl:Dig l) (hm:Dig m) (h:gj l m i c o) (hc:i<l.length∨i<m.length∨0<c) (hd:d=c+at0 l i.toNat+at0 m i.toNat):gj l m (i+1) (d.tdiv 10) (o++[d.tmod 10]):=by
 obtain ⟨h1,h2,h3,h4,h5,h6,h7,h8⟩:=h;have a1:=eH hl i.toNat;have a2:=eH hm i.toNat;have ed:d.tdiv 10=d/10:=Int.tdiv_eq_ediv_of_nonneg (by omega);have em:d.tmod 10=d%10:=Int.tmod_eq_emod_of_nonneg (by omega);rw [ed,em];have hi:i<=l.length+m.length:=by
  rcases hc with hc|hc|hc
  ·omega
  ·omega
  ·by_cases hh:l.length+m.length<i
   ·have:=h8 hh;omega
   ·omega
 have e1:(i+1).toNat=i.toNat+1:=by omega
 refine ⟨by omega,by omega,by omega,by omega,by simp;omega, ?_, ?_,fun hlt=> ?_⟩
 ·rw [uM,fM];exact ⟨h6,⟨by omega,by omega⟩,lD⟩
 ·rw [e1,jD,dP,dP,show o.length=i.toNat by omega];simp only [val,Int.mul_zero,Sc,SE];have e2:(10:Int) ^ i.toNat*d=10 ^ i.toNat*c+10 ^ i.toNat*at0 l i.toNat+10 ^ i.toNat*at0 m i.toNat:=by rw [hd,Int.mul_add,Int.mul_add]
  have e3:(10:Int) ^ i.toNat*(d%10)+10 ^ i.toNat*10*(d/10)=10 ^ i.toNat*d:=by
   rw [Int.mul_assoc,<-Int.mul_add];congr 1;omega
  omega
 ·have b1:at0 l i.toNat=0:=eO (by omega);have b2:at0 m i.toNat=0:=eO (by omega);omega
theorem JU {l m o:List Int} {i c:Int} (h:gj l m i c o) (h1: ¬i<l.length) (h2: ¬i<m.length) (h3: ¬0<c):Dig o/\val o=val l+val m:=by
 obtain ⟨k1,k2,k3,k4,k5,k6,k7,k8⟩:=h;obtain rfl:c=0:=by omega
 rw [gO (by omega),gO (by omega)] at k7;exact ⟨k6,by simpa using k7⟩
def im (l m:List Int) (i c:Int) (o:List Int):Prop:=0<=i/\0<=c/\c<=1/\i<=l.length/\(o.length:Int)=i/\Dig o/\val o+val (m.take i.toNat)=val (l.take i.toNat)+10 ^ i.toNat*c
theorem QT (l m:List Int):im l m 0 0 []:=⟨by omega,by omega,by omega,by omega,by simp,lD,by simp [val]⟩
theorem xL {l m o:List Int} {i c d e b:Int} (hl:Dig l) (hm:Dig m) (h:im l m i c o) (hi:i<l.length) (hd:d=at0 l i.toNat-c-at0 m i.toNat) (he:(d<0/\e=d+10/\b=1)∨(¬d<0/\e=d/\b=0)):
 im l m (i+1) b (o++[e]):=by
 obtain ⟨h1,h2,h3,h4,h5,h6,h7⟩:=h;have a1:=eH hl i.toNat;have a2:=eH hm i.toNat;have e1:(i+1).toNat=i.toNat+1:=by omega
 refine ⟨by omega,by omega,by omega,by omega,by simp;omega, ?_, ?_⟩
 ·rw [uM,fM];exact ⟨h6,⟨by omega,by omega⟩,lD⟩
 ·rw [e1,jD,dP,dP,show o.length=i.toNat by omega];simp only [val,Int.mul_zero,Sc,SE];have e2:(10:Int) ^ i.toNat*d=10 ^ i.toNat*at0 l i.toNat-10 ^ i.toNat*c-10 ^ i.toNat*at0 m i.toNat:=by rw [hd,Int.mul_sub,Int.mul_sub]
  have e3:(10:Int) ^ i.toNat*e=10 ^ i.toNat*d+10 ^ i.toNat*10*b:=by
   rw [Int.mul_assoc,<-Int.mul_add];congr 1;omega
  omega
theorem NK {l m o:List Int} {i c:Int} (hl:Can l) (hm:Can m) (hv:val m<=val l) (h:im l m i c o) (h1: ¬i<l.length):Dig o/\val o=val l-val m:=by
 obtain ⟨k1,k2,k3,k4,k5,k6,k7⟩:=h;have hlen:=AV hm hl hv;rw [gO (by omega),gO (by omega)] at k7;have h2:=kL k6;have h3:=bK k6;have hi:i.toNat=o.length:=by omega
 rw [hi] at k7;have hc:c=0:=by
  by_cases h0:c=0
  ·exact h0
  ·have:c=1:=by omega
   subst this;omega
 subst hc;exact ⟨k6,by omega⟩
def big (s:Bool) (l:List Int):Int:=if s then -(val l) else val l
def Big (s:Bool) (l:List Int):Prop:=Can l/\(s=true->l≠[])
theorem fI (n:Int):big (decide (n<0)) (aD n.natAbs)=n:=by
 unfold big;rw [gN];split
 ·rename_i h;simp at h;omega
 ·rename_i h;simp at h;omega
theorem bO (n:Int):Big (decide (n<0)) (aD n.natAbs):=⟨xK _,fun h e=>by
 have:=fK.1 e;simp at h;omega⟩
theorem NL {s:Bool} {l:List Int} (h:Big s l):decide (big s l<0)=s:=by
 have:=h.1.nonneg;unfold big;cases s with
 |false=>simp;omega
 |true=>
  have h0:val l≠0:=fun e=>h.2 rfl (h.1.nil_iff.2 e);simp;omega
theorem uN {s:Bool} {l:List Int} (h:Big s l):aD (big s l).natAbs=l:=by
 have:=h.1.nonneg;have e:(big s l).natAbs=(val l).toNat:=by unfold big;cases s<;>simp<;>omega
 rw [e];exact h.1.symm
end
section
open Go.Vm
def oU (l:List Int) (n:Int):Prop:=0<=n/\n<=l.length/\∀(i:Nat) d,n<=i->l[i]? =some d->d=0
def JV (l:List Int):Env where
 P:=Tryz.prog
 ty:=aJ
 heads:=fun
  |2=>some {slots:=[(3, .int .i64)],boxes:=[],inv:=fun _ (x:Int×Unit)=>oU l x.1,measure:=fun _ (x:Int×Unit)=>x.1.toNat}
  |_=>none
def FI (l:List Int):Prop:=
 (True/\oU l (↑l.length:Int))/\∀(x:Int×Unit),oU l x.1->(decide (0<x.1)=true->(au (x.1-(1:Int)))/\(0<=x.1-(1:Int)/\x.1-(1:Int)<(↑l.length:Int))/\∀(x_1:Int),l[(x.1-(1:Int)).toNat]? =some x_1->(decide (x_1=0)=true->(au (x.1-(1:Int)))/\True/\oU l (x.1-(1:Int))/\(x.1-(1:Int)).toNat<x.1.toNat)/\(decide (x_1=0)=false->(0<=x.1/\x.1<=l.length)/\(List.take x.1.toNat l,())=(aD (val l).toNat,())))/\(decide (0<x.1)= !true->(0<=x.1/\x.1<=l.length)/\(List.take x.1.toNat l,())=(aD (val l).toNat,()))
theorem FJ (l:List Int) (h:Dig l/\l.length<=1000000000):FI l:=by
 obtain ⟨hd,hl⟩:=h;refine ⟨⟨trivial,by omega,by omega,fun i d hi hx=> ?_⟩, ?_⟩
 ·have:=(List.getElem?_eq_some_iff.1 hx).1;omega
 ·rintro ⟨n,⟨⟩⟩ ⟨h1,h2,h3⟩;simp only [Q7,Q6,Rl] at*;have e: ∀(hn:0<n.toNat->∀d,l[n.toNat-1]? =some d->d≠0),List.take n.toNat l=aD (val l).toNat:=fun hn=>
   JT hd (by omega) (fun i d hi hx=>h3 i d (by omega) hx) hn
  refine ⟨fun hn=>⟨⟨by omega,by omega⟩,⟨by omega,by omega⟩,fun x hx=>⟨fun h0=>⟨⟨by omega,by omega⟩,trivial,⟨by omega,by omega,fun i d hi hd=> ?_⟩,by omega⟩,fun h0=>⟨⟨by omega,by omega⟩, ?_⟩⟩⟩,fun hn=>⟨⟨by omega,by omega⟩, ?_⟩⟩
  ·by_cases hin:n<=i
   ·exact h3 i d hin hd
   ·have:(n-1).toNat=i:=by omega
    rw [this,hd] at hx;cases hx;exact h0
  ·rw [e fun _ d hd=> ?_];have:n.toNat-1=(n-1).toNat:=by omega
   rw [this,hx] at hd;cases hd;exact h0
  ·rw [e fun h0=>by omega]
set_option maxRecDepth 20000
def uO:FSpec Tryz.prog:=mkF 163 (.c (.p I) .z) [.list .part I] (fun x=>(fun (l:List Int)=>(Dig l/\l.length<=1000000000,aD (val l).toNat,())) x.1) fun ⟨l,_⟩ h=>av (E:=JV l) (FJ l h) (ab rfl [] [] rfl rfl) Tryz.func163
def JW (l m:List Int):Env where
 P:=Tryz.prog
 ty:=aJ
 specs:=ai [uO]
 heads:=fun
  |4=>some {slots:=[(7, .int .i64),(6, .int .i64),(5, .slc 5000 I)],boxes:=[],inv:=fun _ (x:Int×Int×List Int×Unit)=>gj l m x.1 x.2.1 x.2.2.1,measure:=fun _ (x:Int×Int×List Int×Unit)=>(l.length+m.length+2-x.1).toNat}
  |_=>none
 joins:=fun
  |6=>some {slots:=[],boxes:=[],keep:=[5000],inv:=fun st _=>st.int 7<l.length∨st.int 7<m.length∨0<st.int 6}
  |9=>some {slots:=[(8, .int .i64)],boxes:=[],keep:=[5000],inv:=fun st (x:Int×Unit)=>x.1=st.int 6+at0 l (st.int 7).toNat}
  |11=>some {slots:=[(8, .int .i64)],boxes:=[],keep:=[5000],inv:=fun st (x:Int×Unit)=>x.1=st.int 6+at0 l (st.int 7).toNat+at0 m (st.int 7).toNat}
  |13=>some {slots:=[(5, .list .part I)],boxes:=[],inv:=fun _ (x:List Int×Unit)=>Dig x.1/\x.1.length<=1000000000/\val x.1=val l+val m}
  |_=>none
def FK (l:List Int) (m:List Int):Prop:=
 ((True/\gj l m 0 0 [])/\∀(x:Int×Int×List Int×Unit),gj l m x.1 x.2.1 x.2.2.1->((decide (x.1<l.length)=false->(decide (x.1<m.length)=false->(decide (0<x.2.1)=true->(some (Obj.arr 0 I x.2.2.1)=some (Obj.arr 0 I x.2.2.1)/\True)/\(x.1<l.length∨x.1<m.length∨0<x.2.1))/\(decide (0<x.2.1)=false->True/\Dig x.2.2.1/\x.2.2.1.length<=(1000000000:Nat)/\val x.2.2.1=val l+val m))/\(decide (x.1<m.length)= !false->(some (Obj.arr 0 I x.2.2.1)=some (Obj.arr 0 I x.2.2.1)/\True)/\(x.1<l.length∨x.1<m.length∨0<x.2.1)))/\(decide (x.1<l.length)= !false->(some (Obj.arr 0 I x.2.2.1)=some (Obj.arr 0 I x.2.2.1)/\True)/\(x.1<l.length∨x.1<m.length∨0<x.2.1)))/\∀(x_1:Unit),x.1<l.length∨x.1<m.length∨0<x.2.1->((decide (x.1<l.length)=true->(0<=x.1/\x.1<l.length)/\∀(x_2:Int),l[x.1.toNat]? =some x_2->(au (x.2.1+x_2))/\(some (Obj.arr 0 I x.2.2.1)=some (Obj.arr 0 I x.2.2.1)/\True)/\x.2.1+x_2=x.2.1+at0 l x.1.toNat)/\(decide (x.1<l.length)=false->(some (Obj.arr 0 I x.2.2.1)=some (Obj.arr 0 I x.2.2.1)/\True)/\x.2.1=x.2.1+at0 l x.1.toNat))/\∀(x_2:Int×Unit),x_2.1=x.2.1+at0 l x.1.toNat->((decide (x.1<m.length)=true->(0<=x.1/\x.1<m.length)/\∀(x_3:Int),m[x.1.toNat]? =some x_3->(au (x_2.1+x_3))/\(some (Obj.arr 0 I x.2.2.1)=some (Obj.arr 0 I x.2.2.1)/\True)/\x_2.1+x_3=x.2.1+at0 l x.1.toNat+at0 m x.1.toNat)/\(decide (x.1<m.length)=false->(some (Obj.arr 0 I x.2.2.1)=some (Obj.arr 0 I x.2.2.1)/\True)/\x_2.1=x.2.1+at0 l x.1.toNat+at0 m x.1.toNat))/\∀(x_3:Int×Unit),x_3.1=x.2.1+at0 l x.1.toNat+at0 m x.1.toNat->(10:Int)≠(0:Int)/\((x.2.2.1.length+(1:Nat))*(8:Nat)<=(140737488355328:Nat)/\x.2.2.1.length+(1:Nat)<=(4611686018427387904:Nat))/\(10:Int)≠(0:Int)/\(au (x_3.1.tdiv 10))/\(au (x.1+1))/\True/\gj l m (x.1+1) (x_3.1.tdiv 10) (x.2.2.1++[x_3.1.tmod 10])/\((↑l.length:Int)+(↑m.length:Int)+(2:Int)-(x.1+1)).toNat<((↑l.length:Int)+(↑m.length:Int)+(2:Int)-x.1).toNat)/\∀(x:List Int×Unit),Dig x.1/\x.1.length<=(1000000000:Nat)/\val x.1=val l+val m->(Dig x.1/\x.1.length<=(1000000000:Nat))/\(aD (val x.1).toNat,())=(aD (val l+val m).toNat,())
theorem FL (l m:List Int) (h:Dig l/\Dig m/\l.length<=100000000/\m.length<=100000000):FK l m:=by
 obtain ⟨hl,hm,l1,l2⟩:=h;refine ⟨⟨⟨trivial,P3 l m⟩, ?_⟩, ?_⟩
 ·rintro ⟨i,c,o,⟨⟩⟩ hI;have hI0:=hI;obtain ⟨h1,h2,h3,h4,h5,h6,h7,h8⟩:=hI0;simp only [Q7,Q6,Rg] at*;refine ⟨⟨fun c1=>⟨fun c2=>⟨fun c3=>⟨⟨trivial,trivial⟩, .inr (.inr c3)⟩,fun c3=> ?_⟩,fun c2=>⟨⟨trivial,trivial⟩, .inr (.inl c2)⟩⟩,fun c1=>⟨⟨trivial,trivial⟩, .inl c1⟩⟩,fun _ hc=>⟨⟨fun c1=>⟨⟨h1,c1⟩,fun x hx=> ?_⟩,fun c1=>⟨⟨trivial,trivial⟩, ?_⟩⟩, ?_⟩⟩
  ·obtain ⟨e1,e2⟩:=JU hI c1 c2 c3;exact ⟨trivial,e1,by omega,e2⟩
  ·have:=gi hl hx;exact ⟨⟨by omega,by omega⟩,⟨trivial,trivial⟩,by rw [fO hx]⟩
  ·rw [eO (l:=l) (by omega),Sc]
  ·rintro ⟨d,⟨⟩⟩ hd;have a1:=eH hl i.toNat;have a2:=eH hm i.toNat;dsimp only at hd⊢;refine ⟨⟨fun c1=>⟨⟨h1,c1⟩,fun x hx=> ?_⟩,fun c1=>⟨⟨trivial,trivial⟩, ?_⟩⟩, ?_⟩
   ·have:=gi hm hx;exact ⟨⟨by omega,by omega⟩,⟨trivial,trivial⟩,by rw [fO hx];omega⟩
   ·rw [eO (l:=m) (by omega),Sc];exact hd
   ·rintro ⟨e,⟨⟩⟩ he;dsimp only at he⊢;have ed:e.tdiv 10=e/10:=Int.tdiv_eq_ediv_of_nonneg (by omega);have hi:i<=l.length+m.length:=by
     rcases hc with hc|hc|hc
     ·omega
     ·omega
     ·by_cases hh:(l.length:Int)+m.length<i
      ·have:=h8 hh;omega
      ·omega
    refine ⟨by omega,⟨by omega,by omega⟩,by omega,⟨by omega,by omega⟩,⟨by omega,by omega⟩,trivial,FH hl hm hI hc (by omega),by omega⟩
 ·rintro ⟨o,⟨⟩⟩ ⟨h1,h2,h3⟩;refine ⟨⟨h1,h2⟩, ?_⟩;rw [h3]
def Dd:FSpec Tryz.prog:=mkF 160 (.c (.l I) (.c (.l I) .z)) [.list .part I] (fun x=>(fun (l m:List Int)=>(Dig l/\Dig m/\l.length<=100000000/\m.length<=100000000,aD (val l+val m).toNat,())) x.1 x.2.1) fun ⟨l,m,_⟩ h=>av (E:=JW l m) (FL l m h) (ab rfl _ [] rfl rfl) Tryz.func160
def FM (l m:List Int):Env where
 P:=Tryz.prog
 ty:=aJ
 specs:=ai [uO]
 heads:=fun
  |4=>some {slots:=[(7, .int .i64),(6, .int .i64),(5, .slc 5000 I),(8, .any)],boxes:=[],inv:=fun _ (x:Int×Int×List Int×Unit×Unit)=>im l m x.1 x.2.1 x.2.2.1,measure:=fun _ (x:Int×Int×List Int×Unit×Unit)=>(l.length+2-x.1).toNat}
  |_=>none
 joins:=fun
  |9=>some {slots:=[(8, .int .i64)],boxes:=[],keep:=[5000],inv:=fun st (x:Int×Unit)=>x.1=at0 l (st.int 7).toNat-st.int 6-at0 m (st.int 7).toNat}
  |14=>some {slots:=[(5, .list .part I)],boxes:=[],inv:=fun _ (x:List Int×Unit)=>Dig x.1/\x.1.length<=1000000000/\val x.1=val l-val m}
  |_=>none
def AW (l:List Int) (m:List Int):Prop:=
 ((True/\im l m 0 0 [])/\∀(x:Int×Int×List Int×Unit×Unit),im l m x.1 x.2.1 x.2.2.1->(decide (x.1<l.length)=true->(0<=x.1/\x.1<l.length)/\∀(x_1:Int),l[x.1.toNat]? =some x_1->(au (x_1-x.2.1))/\((decide (x.1<m.length)=true->(0<=x.1/\x.1<m.length)/\∀(x_2:Int),m[x.1.toNat]? =some x_2->(au (x_1-x.2.1-x_2))/\(some (Obj.arr 0 I x.2.2.1)=some (Obj.arr 0 I x.2.2.1)/\True)/\x_1-x.2.1-x_2=at0 l x.1.toNat-x.2.1-at0 m x.1.toNat)/\(decide (x.1<m.length)=false->(some (Obj.arr 0 I x.2.2.1)=some (Obj.arr 0 I x.2.2.1)/\True)/\x_1-x.2.1=at0 l x.1.toNat-x.2.1-at0 m x.1.toNat))/\∀(x_2:Int×Unit),x_2.1=at0 l x.1.toNat-x.2.1-at0 m x.1.toNat->(decide (x_2.1<0)=true->(au (x_2.1+(10:Int)))/\((x.2.2.1.length+(1:Nat))*(8:Nat)<=(140737488355328:Nat)/\x.2.2.1.length+(1:Nat)<=(4611686018427387904:Nat))/\(au (x.1+1))/\True/\im l m (x.1+1) 1 (x.2.2.1++[x_2.1+(10:Int)])/\((↑l.length:Int)+(2:Int)-(x.1+1)).toNat<((↑l.length:Int)+(2:Int)-x.1).toNat)/\(decide (x_2.1<0)=false->((x.2.2.1.length+(1:Nat))*(8:Nat)<=(140737488355328:Nat)/\x.2.2.1.length+(1:Nat)<=(4611686018427387904:Nat))/\(au (x.1+1))/\True/\im l m (x.1+1) 0 (x.2.2.1++[x_2.1])/\((↑l.length:Int)+(2:Int)-(x.1+1)).toNat<((↑l.length:Int)+(2:Int)-x.1).toNat))/\(decide (x.1<l.length)=false->True/\Dig x.2.2.1/\x.2.2.1.length<=(1000000000:Nat)/\val x.2.2.1=val l-val m))/\∀(x:List Int×Unit),Dig x.1/\x.1.length<=(1000000000:Nat)/\val x.1=val l-val m->(Dig x.1/\x.1.length<=(1000000000:Nat))/\(aD (val x.1).toNat,())=(aD (val l-val m).toNat,())
theorem AX (l m:List Int) (h:Can l/\Can m/\val m<=val l/\l.length<=100000000):AW l m:=by
 obtain ⟨hl,hm,hv,l1⟩:=h;have dl:=hl.dig;have dm:=hm.dig;refine ⟨⟨⟨trivial,QT l m⟩, ?_⟩, ?_⟩
 ·rintro ⟨i,c,o,⟨⟩,⟨⟩⟩ hI;have hI0:=hI;obtain ⟨h1,h2,h3,h4,h5,h6,h7⟩:=hI0;simp only [Q7,Q6] at*;have a1:=eH dl i.toNat;have a2:=eH dm i.toNat;refine ⟨fun c1=>⟨⟨h1,c1⟩,fun x hx=> ?_⟩,fun c1=> ?_⟩
  ·have ax:=fO hx;refine ⟨⟨by omega,by omega⟩,⟨fun c2=>⟨⟨h1,c2⟩,fun y hy=> ?_⟩,fun c2=>⟨⟨trivial,trivial⟩, ?_⟩⟩, ?_⟩
   ·have ay:=fO hy;exact ⟨⟨by omega,by omega⟩,⟨trivial,trivial⟩,by omega⟩
   ·have ay:=eO (l:=m) (i:=i.toNat) (by omega);omega
   ·rintro ⟨d,⟨⟩⟩ hd;dsimp only at hd⊢;refine ⟨fun c3=>⟨⟨by omega,by omega⟩,⟨by omega,by omega⟩,⟨by omega,by omega⟩,trivial,xL dl dm hI c1 hd (.inl ⟨c3,rfl,rfl⟩),by omega⟩,
     fun c3=>⟨⟨by omega,by omega⟩,⟨by omega,by omega⟩,trivial,xL dl dm hI c1 hd (.inr ⟨c3,rfl,rfl⟩),by omega⟩⟩
  ·obtain ⟨e1,e2⟩:=NK hl hm hv hI c1;exact ⟨trivial,e1,by omega,e2⟩
 ·rintro ⟨o,⟨⟩⟩ ⟨h1,h2,h3⟩;refine ⟨⟨h1,h2⟩, ?_⟩;rw [h3]
def JX:FSpec Tryz.prog:=mkF 162 (.c (.l I) (.c (.l I) .z)) [.list .part I] (fun x=>(fun (l m:List Int)=>(Can l/\Can m/\val m<=val l/\l.length<=100000000,aD (val l-val m).toNat,())) x.1 x.2.1) fun ⟨l,m,_⟩ h=>av (E:=FM l m) (AX l m h) (ab rfl _ [] rfl rfl) Tryz.func162
def fP (a b:Int):Int:=if a<b then -1 else if b<a then 1 else 0
def AY (l m:List Int):Env where
 P:=Tryz.prog
 ty:=aJ
 heads:=fun
  |6=>some {slots:=[(5, .int .i64)],boxes:=[],inv:=fun _ (x:Int×Unit)=> -1<=x.1/\x.1<l.length/\l.length=m.length/\l.drop (x.1+1).toNat=m.drop (x.1+1).toNat,measure:=fun _ (x:Int×Unit)=>(x.1+1).toNat}
  |_=>none
def n_ (l:List Int) (m:List Int):Prop:=
 ((!decide ((↑l.length:Int)=(↑m.length:Int)))=true->(decide ((↑l.length:Int)<(↑m.length:Int))=true->((-1:Int),())=(fP (val l) (val m),()))/\(decide ((↑l.length:Int)<(↑m.length:Int))=false->((1:Int),())=(fP (val l) (val m),())))/\((!decide ((↑l.length:Int)=(↑m.length:Int)))=false->(au ((↑l.length:Int)-(1:Int)))/\(True/\(-1:Int)<=(↑l.length:Int)-(1:Int)/\(↑l.length:Int)-(1:Int)<(↑l.length:Int)/\l.length=m.length/\List.drop ((↑l.length:Int)-(1:Int)+1).toNat l=List.drop ((↑l.length:Int)-(1:Int)+1).toNat m)/\∀(x:Int×Unit),-1<=x.1/\x.1<l.length/\l.length=m.length/\List.drop (x.1+1).toNat l=List.drop (x.1+1).toNat m->(decide (0<=x.1)=true->(0<=x.1/\x.1<l.length)/\∀(x_1:Int),l[x.1.toNat]? =some x_1->(0<=x.1/\x.1<m.length)/\∀(x_2:Int),m[x.1.toNat]? =some x_2->(decide (x_1<x_2)=true->((-1:Int),())=(fP (val l) (val m),()))/\(decide (x_1<x_2)=false->(0<=x.1/\x.1<l.length)/\∀(x_3:Int),l[x.1.toNat]? =some x_3->(0<=x.1/\x.1<m.length)/\∀(x_4:Int),m[x.1.toNat]? =some x_4->(decide (x_4<x_3)=true->((1:Int),())=(fP (val l) (val m),()))/\(decide (x_4<x_3)=false->(au (x.1-(1:Int)))/\True/\(-1<=x.1-(1:Int)/\x.1-(1:Int)<(↑l.length:Int)/\l.length=m.length/\List.drop (x.1-(1:Int)+1).toNat l=List.drop (x.1-(1:Int)+1).toNat m)/\(x.1-(1:Int)+1).toNat<(x.1+1).toNat)))/\(decide (0<=x.1)=false->((0:Int),())=(fP (val l) (val m),())))
theorem xM (l m:List Int) (h:Can l/\Can m/\l.length<=1000000000):n_ l m:=by
 obtain ⟨hl,hm,l1⟩:=h;unfold n_ fP;simp only [Q7,Q6,Rb,Rd];refine ⟨fun c1=>⟨fun c2=> ?_,fun c2=> ?_⟩,fun c1=>⟨⟨by omega,by omega⟩,⟨trivial,by omega,by omega,by omega, ?_⟩, ?_⟩⟩
 ·rw [Q_ (kM hl hm (by omega))]
 ·have:=kM hm hl (by omega);rw [Q8 (by omega),Q_ this]
 ·rw [RC (by omega),RC (by omega)]
 ·rintro ⟨i,⟨⟩⟩ ⟨h1,h2,h3,h4⟩;simp only at*;have e1:(i+1).toNat=i.toNat+1∨i= -1:=by omega
  refine ⟨fun c2=>⟨⟨c2,h2⟩,fun x hx=>⟨⟨c2,by omega⟩,fun y hy=>⟨fun c3=> ?_,fun c3=>⟨⟨c2,h2⟩,fun x' hx'=>⟨⟨c2,by omega⟩,fun y' hy'=> ?_⟩⟩⟩⟩⟩,fun c2=> ?_⟩
  ·have e2:(i+1).toNat=i.toNat+1:=by omega
   rw [e2] at h4;rw [Q_ (Dc hl.dig hm.dig h3 hx hy h4 c3)]
  ·rw [hx] at hx';cases hx';rw [hy] at hy';cases hy';have e2:(i+1).toNat=i.toNat+1:=by omega
   rw [e2] at h4;refine ⟨fun c4=> ?_,fun c4=>⟨⟨by omega,by omega⟩,trivial,⟨by omega,by omega,h3, ?_⟩,by omega⟩⟩
   ·have:=Dc hm.dig hl.dig h3.symm hy hx h4.symm c4;rw [Q8 (by omega),Q_ this]
   ·have e3:(i-1+1).toNat=i.toNat:=by omega
    have exy:x=y:=by omega
    subst exy;rw [e3];obtain ⟨q1,q2⟩:=List.getElem?_eq_some_iff.1 hx;obtain ⟨q3,q4⟩:=List.getElem?_eq_some_iff.1 hy;rw [Rw q1,Rw q3,h4,q2,q4]
  ·have:i= -1:=by omega
   subst this;have:l=m:=by simpa using h4
   subst this;rw [Q8 (by omega),Q8 (by omega)]
def FN:FSpec Tryz.prog:=mkF 161 (.c (.l I) (.c (.l I) .z)) [.int .i64] (fun x=>(fun (l m:List Int)=>(Can l/\Can m/\l.length<=1000000000,fP (val l) (val m),())) x.1 x.2.1) fun ⟨l,m,_⟩ h=>av (E:=AY l m) (xM l m h) (ab rfl [] [] rfl rfl) Tryz.func161
def FO (s t:Bool) (l m:List Int):Env where
 P:=Tryz.prog
 ty:=aJ
 specs:=ai [Dd,FN,JX]
 frz:=fun|17=>true|29=>true|45=>true|_=>false
abbrev FP:Ann:={slots:=bB 0 [.bool, .list .part I],boxes:=[],inv:=fun _ _=>True}
def qw (s:Bool) (t:Bool) (l:List Int) (m:List Int):Prop:=
 ((s==t)=true->(Dig l/\Dig m/\l.length<=(100000000:Nat)/\m.length<=(100000000:Nat))/\True/\(s,aD (val l+val m).toNat,())=(decide (big s l+big t m<0),aD (big s l+big t m).natAbs,()))/\((s==t)=false->(Can l/\Can m/\l.length<=(1000000000:Nat))/\(ag (0<=fP (val l) (val m))->(Can l/\Can m/\val m<=val l/\l.length<=(100000000:Nat))/\(s=true->True/\(decide ((0:Int)<(↑(aD (val l-val m).toNat).length:Int)),aD (val l-val m).toNat,())=(decide (big s l+big t m<0),aD (big s l+big t m).natAbs,()))/\(s= !true->True/\(false,aD (val l-val m).toNat,())=(decide (big s l+big t m<0),aD (big s l+big t m).natAbs,())))/\(aj (0<=fP (val l) (val m))->(Can m/\Can l/\val l<=val m/\m.length<=(100000000:Nat))/\True/\(t,aD (val m-val l).toNat,())=(decide (big s l+big t m<0),aD (big s l+big t m).natAbs,())))
theorem AZ (s t:Bool) (l m:List Int) (h:Big s l/\Big t m/\l.length<=1000000/\m.length<=1000000):qw s t l m:=by
 obtain ⟨⟨hl,hs⟩,⟨hm,ht⟩,l1,l2⟩:=h;have vl:=hl.nonneg;have vm:=hm.nonneg;have ps:s=true->0<val l:=fun e=>by
  have:val l≠0:=fun e0=>hs e (hl.nil_iff.2 e0);omega
 have pt:t=true->0<val m:=fun e=>by
  have:val m≠0:=fun e0=>ht e (hm.nil_iff.2 e0);omega
 have key: ∀{b:Bool} {n:Nat} {z:Int},(b=true↔z<0)->n=z.natAbs->(b,aD n,())=(decide (z<0),aD z.natAbs,()):=by
  rintro b n z hb rfl;cases b with
  |true=>rw [RB (hb.1 rfl)]
  |false=>rw [Rs (fun h=>by have:=hb.2 h;cases this)]
 have len0: ∀n:Nat,((0:Int)<((aD n).length:Int))↔0<n:=fun n=>by
  by_cases h0:n=0
  ·subst h0;simp [bT]
  ·rw [dA h0];simp;omega
 unfold qw aj ag fP;refine ⟨fun c1=>⟨⟨hl.dig,hm.dig,by omega,by omega⟩,trivial, ?_⟩,fun c1=>⟨⟨hl,hm,by omega⟩,fun c2=>⟨⟨hl,hm, ?_,by omega⟩,fun c3=>⟨trivial, ?_⟩,fun c3=>⟨trivial, ?_⟩⟩,fun c2=>⟨⟨hm,hl, ?_,by omega⟩,trivial, ?_⟩⟩⟩
 ·have e:s=t:=by simpa using c1
  subst e;refine key ?_ ?_<;>cases s
  ·simp only [big,if_false,Rx,false_iff];omega
  ·have:=ps rfl;simp only [big,if_true,true_iff];omega
  ·simp only [big,if_false,Rx];omega
  ·simp only [big,if_true];omega
 ·rw [Q7] at c2;by_cases h1:val l<val m
  ·rw [Q_ h1] at c2;omega
  ·omega
 ·subst c3;have e:t=false:=by
   cases t with
   |false=>rfl
   |true=>exact absurd c1 (by decide)
  subst e;have:=ps rfl;have hge:val m<=val l:=by
   rw [Q7] at c2;by_cases h1:val l<val m
   ·rw [Q_ h1] at c2;omega
   ·omega
  refine key ?_ ?_
  ·rw [Q7,len0];simp only [big,if_true,if_false,Rx];omega
  ·simp only [big,if_true,if_false,Rx];omega
 ·have e1:s=false:=by simpa using c3
  subst e1;have e:t=true:=by
   cases t with
   |true=>rfl
   |false=>exact absurd c1 (by decide)
  subst e;have hge:val m<=val l:=by
   rw [Q7] at c2;by_cases h1:val l<val m
   ·rw [Q_ h1] at c2;omega
   ·omega
  refine key ?_ ?_
  ·simp only [big,if_true,if_false,Rx,false_iff];omega
  ·simp only [big,if_true,if_false,Rx];omega
 ·rw [Q6] at c2;by_cases h1:val l<val m
  ·omega
  ·rw [Q8 h1] at c2;split at c2<;>omega
 ·have hlt:val l<val m:=by
   rw [Q6] at c2;by_cases h1:val l<val m
   ·exact h1
   ·rw [Q8 h1] at c2;split at c2<;>omega
  cases s<;>cases t
  ·simp at c1
  ·refine key ?_ ?_
   ·simp only [big,if_true,if_false,Rx,true_iff];omega
   ·simp only [big,if_true,if_false,Rx];omega
  ·refine key ?_ ?_
   ·simp only [big,if_true,if_false,Rx,false_iff];omega
   ·simp only [big,if_true,if_false,Rx];omega
  ·simp at c1
def qh:FSpec Tryz.prog:=mkG 114 (.c (.g (.c .b (.c (.p I) .z))) (.c (.g (.c .b (.c (.p I) .z))) .z)) (fun x=>(fun (s t:Bool) (l m:List Int)=>(Big s l/\Big t m/\l.length<=1000000/\m.length<=1000000,(.agg [.bool (decide (big s l+big t m<0)), .list .part I (aD (big s l+big t m).natAbs)]))) x.1.1 x.2.1.1 x.1.2.1 x.2.1.2.1) fun ⟨⟨s,l,_⟩,⟨t,m,_⟩,_⟩ h=>Pure.of_condG (E:=FO s t l m) (sh:=[some 2]) (ann:=FP) (x:=(fun (s t:Bool) (l m:List Int)=>(decide (big s l+big t m<0),aD (big s l+big t m).natAbs,())) s t l m) (by kernel_rfl) (AZ s t l m h) rfl (ab rfl _ [] rfl rfl) mixed Tryz.func114
def JY (s:Bool) (l:List Int):Env:=ee
abbrev JZ:Ann:={slots:=bB 0 [.bool, .list .part I],boxes:=[],inv:=fun _ _=>True}
def sJ (s:Bool) (l:List Int):Prop:=
 ((!s)=true->True/\(decide ((0:Int)<(↑l.length:Int)),l,())=(decide ((0:Int)-big s l<0),aD ((0:Int)-big s l).natAbs,()))/\((!s)= !true->True/\(false,l,())=(decide ((0:Int)-big s l<0),aD ((0:Int)-big s l).natAbs,()))
theorem FQ (s:Bool) (l:List Int) (h:Big s l):sJ s l:=by
 have hb:=h;obtain ⟨hl,hs⟩:=h;have vl:=hl.nonneg;have hn:=hl.nil_iff;have e:(0-big s l).natAbs=(big s l).natAbs:=by omega
 unfold sJ;rw [e,uN hb];refine ⟨fun c=>⟨trivial, ?_⟩,fun c=>⟨trivial, ?_⟩⟩
 ·have:s=false:=by simpa using c
  subst this;have:((0:Int)<l.length)↔(0-val l<0):=by
   have h1:((0:Int)<l.length)↔¬l=[]:=by rw [<-List.length_eq_zero_iff];omega
   rw [h1,hn];omega
  simp only [big,if_false,Rx,this]
 ·have:s=true:=by simpa using c
  subst this;have: ¬(0-big true l<0):=by simp only [big,if_true];omega
  rw [Rs this]
def De:FSpec Tryz.prog:=mkG 116 (.c (.g (.c .b (.c (.p I) .z))) .z) (fun x=>(fun (s:Bool) (l:List Int)=>(Big s l,(.agg [.bool (decide (0-big s l<0)), .list .part I (aD (0-big s l).natAbs)]))) x.1.1 x.1.2.1) fun ⟨⟨s,l,_⟩,_⟩ h=>Pure.of_condG (E:=JY s l) (sh:=[some 2]) (ann:=JZ) (x:=(fun (s:Bool) (l:List Int)=>(decide (0-big s l<0),aD (0-big s l).natAbs,())) s l) (by kernel_rfl) (FQ s l h) rfl (ab rfl [] [] rfl rfl) mixed Tryz.func116
def A0 (s t:Bool) (l m:List Int):Env where
 P:=Tryz.prog
 ty:=aJ
 specs:=ai [De,qh]
 frz:=fun|7=>true|8=>true|_=>false
abbrev A3:Ann:={slots:=bB 0 [.bool, .list .part I],boxes:=[],inv:=fun _ _=>True}
def xN (s:Bool) (t:Bool) (l:List Int) (m:List Int):Prop:=
 Big t m/\(Big s l/\Big (decide ((0:Int)-big t m<0)) (aD ((0:Int)-big t m).natAbs)/\l.length<=(1000000:Nat)/\(aD ((0:Int)-big t m).natAbs).length<=(1000000:Nat))/\True/\(decide (big s l+big (decide ((0:Int)-big t m<0)) (aD ((0:Int)-big t m).natAbs)<0),aD (big s l+big (decide ((0:Int)-big t m<0)) (aD ((0:Int)-big t m).natAbs)).natAbs,())=(decide (big s l-big t m<0),aD (big s l-big t m).natAbs,())
theorem xO (s t:Bool) (l m:List Int) (h:Big s l/\Big t m/\l.length<=1000000/\m.length<=1000000):xN s t l m:=by
 obtain ⟨h1,h2,l1,l2⟩:=h;have e:(0-big t m).natAbs=(big t m).natAbs:=by omega
 refine ⟨h2,⟨h1,bO _,l1,by rw [e,uN h2];exact l2⟩,trivial, ?_⟩;rw [fI,show big s l+(0-big t m)=big s l-big t m by omega]
def FR:FSpec Tryz.prog:=mkG 235 (.c (.g (.c .b (.c (.p I) .z))) (.c (.g (.c .b (.c (.p I) .z))) .z)) (fun x=>(fun (s t:Bool) (l m:List Int)=>(Big s l/\Big t m/\l.length<=1000000/\m.length<=1000000,(.agg [.bool (decide (big s l-big t m<0)), .list .part I (aD (big s l-big t m).natAbs)]))) x.1.1 x.2.1.1 x.1.2.1 x.2.1.2.1) fun ⟨⟨s,l,_⟩,⟨t,m,_⟩,_⟩ h=>Pure.of_condG (E:=A0 s t l m) (sh:=[some 2]) (ann:=A3) (x:=(fun (s t:Bool) (l m:List Int)=>(decide (big s l-big t m<0),aD (big s l-big t m).natAbs,())) s t l m) (by kernel_rfl) (xO s t l m h) rfl (ab rfl _ [] rfl rfl) mixed Tryz.func235
def J0 (s t:Bool) (l m:List Int):Env where
 P:=Tryz.prog
 ty:=aJ
 specs:=ai [FR]
def sK (s:Bool) (t:Bool) (l:List Int) (m:List Int):Prop:=
 (Big s l/\Big t m/\l.length<=(1000000:Nat)/\m.length<=(1000000:Nat))/\(ag (big s l-big t m<0)->((-1:Int),())=(fP (big s l) (big t m),()))/\(aj (big s l-big t m<0)->(ag ((0:Int)<(↑(aD (big s l-big t m).natAbs).length:Int))->((1:Int),())=(fP (big s l) (big t m),()))/\(aj ((0:Int)<(↑(aD (big s l-big t m).natAbs).length:Int))->((0:Int),())=(fP (big s l) (big t m),())))
theorem FS (s t:Bool) (l m:List Int) (h:Big s l/\Big t m/\l.length<=1000000/\m.length<=1000000):sK s t l m:=by
 have len0: ∀n:Nat,((0:Int)<((aD n).length:Int))↔0<n:=fun n=>by
  by_cases h0:n=0
  ·subst h0;simp [bT]
  ·rw [dA h0];simp;omega
 unfold sK aj ag fP;simp only [Q7,Q6,len0];refine ⟨h,fun c=> ?_,fun c=>⟨fun c2=> ?_,fun c2=> ?_⟩⟩
 ·rw [Q_ (by omega)]
 ·rw [Q8 (by omega),Q_ (by omega)]
 ·rw [Q8 (by omega),Q8 (by omega)]
def NM:FSpec Tryz.prog:=mkF 208 (.c (.g (.c .b (.c (.p I) .z))) (.c (.g (.c .b (.c (.p I) .z))) .z)) [.int .i64] (fun x=>(fun (s t:Bool) (l m:List Int)=>(Big s l/\Big t m/\l.length<=1000000/\m.length<=1000000,fP (big s l) (big t m),())) x.1.1 x.2.1.1 x.1.2.1 x.2.1.2.1) fun ⟨⟨s,l,_⟩,⟨t,m,_⟩,_⟩ h=>av (E:=J0 s t l m) (FS s t l m h) (ab rfl _ [] rfl rfl) Tryz.func208
def fJ (z:Int):Int:=if -9223372036854775808<=z/\z<=9223372036854775807 then z else 0
def okB (z:Int):Bool:=decide (-9223372036854775808<=z)&&decide (z<=9223372036854775807)
def qx (s:Bool) (l:List Int) (i n:Int):Prop:= -1<=i/\i<l.length/\n=big s (l.drop (i+1).toNat)
def J1 (s:Bool) (l:List Int):Env where
 P:=Tryz.prog
 ty:=aJ
 specs:=ai [JE,NM]
 frz:=fun|7=>true|8=>true|12=>true|13=>true|_=>false
 heads:=fun
  |5=>some {slots:=[(5, .int .i64),(4, .int .i64)],boxes:=[],keep:=[1],inv:=fun _ (x:Int×Int×Unit)=>qx s l x.1 x.2.1,measure:=fun _ (x:Int×Int×Unit)=>(x.1+1).toNat}
  |_=>none
def sL (s:Bool) (l:List Int):Prop:=
 InI (-9223372036854775808)/\(Big s l/\Big (decide ((-9223372036854775808:Int)<(0:Int))) (aD (-9223372036854775808).natAbs)/\l.length<=(1000000:Nat)/\(aD (-9223372036854775808).natAbs).length<=(1000000:Nat))/\(aj (fP (big s l) (big (decide ((-9223372036854775808:Int)<(0:Int))) (aD (-9223372036854775808).natAbs))<0)->InI 9223372036854775807/\(Big s l/\Big (decide ((9223372036854775807:Int)<(0:Int))) (aD (Int.natAbs 9223372036854775807))/\l.length<=(1000000:Nat)/\(aD (Int.natAbs 9223372036854775807)).length<=(1000000:Nat))/\(ag (0<fP (big s l) (big (decide ((9223372036854775807:Int)<(0:Int))) (aD (Int.natAbs 9223372036854775807))))->((0:Int),false,())=(fJ (big s l),okB (big s l),()))/\(aj (0<fP (big s l) (big (decide ((9223372036854775807:Int)<(0:Int))) (aD (Int.natAbs 9223372036854775807))))->(au ((↑l.length:Int)-(1:Int)))/\((some (Obj.box [V.bool s,V.list LK.part I l])=some (Obj.box [V.bool s,V.list LK.part I l])/\True)/\qx s l ((↑l.length:Int)-(1:Int)) 0)/\∀(x:Int×Int×Unit),qx s l x.1 x.2.1->(ag (0<=x.1)->(s=true->(au (x.2.1*(10:Int)))/\(0<=x.1/\x.1<l.length)/\∀(x_1:Int),l[x.1.toNat]? =some x_1->(au (x.2.1*(10:Int)-x_1))/\(au (x.1-(1:Int)))/\(some (Obj.box [V.bool s,V.list LK.part I l])=some (Obj.box [V.bool s,V.list LK.part I l])/\True)/\qx s l (x.1-(1:Int)) (x.2.1*(10:Int)-x_1)/\(x.1-(1:Int)+1).toNat<(x.1+1).toNat)/\(s=false->(au (x.2.1*(10:Int)))/\(0<=x.1/\x.1<l.length)/\∀(x_1:Int),l[x.1.toNat]? =some x_1->(au (x.2.1*(10:Int)+x_1))/\(au (x.1-(1:Int)))/\(some (Obj.box [V.bool s,V.list LK.part I l])=some (Obj.box [V.bool s,V.list LK.part I l])/\True)/\qx s l (x.1-(1:Int)) (x.2.1*(10:Int)+x_1)/\(x.1-(1:Int)+1).toNat<(x.1+1).toNat))/\(aj (0<=x.1)->(x.2.1,true,())=(fJ (big s l),okB (big s l),()))))/\(bu (fP (big s l) (big (decide ((-9223372036854775808:Int)<(0:Int))) (aD (-9223372036854775808).natAbs))<0)->((0:Int),false,())=(fJ (big s l),okB (big s l),()))
theorem FT (s:Bool) (l:List Int) (h:Big s l/\l.length<=1000000):sL s l:=by
 obtain ⟨hb,hl⟩:=h;have hd:=hb.1.dig;have vl:=hb.1.nonneg;have cl: ∀z:Int, -9223372036854775808<=z->z<=9223372036854775807->(aD z.natAbs).length<=1000000:=fun z h1 h2=>Ro (eN (k:=19) (by omega)) (by omega);have bv: ∀(i:Nat),val (l.drop i)<=val l/\0<=val (l.drop i):=fun i=>by
  have h1:=jE l i;have h2:=bK (fN hd i);have h3:0<=val (l.drop i):=bK fun d hd'=>hd d (List.mem_of_mem_drop hd');have h4:(1:Int)<=10 ^ (l.take i).length:=by
   have:(0:Int)<10 ^ (l.take i).length:=Int.pow_pos (by omega);omega
  have h5:1*val (l.drop i)<=10 ^ (l.take i).length*val (l.drop i):=Int.mul_le_mul_of_nonneg_right h4 h3;omega
 unfold sL aj bu ag;simp only [Q7,Q6,Rg];rw [fI,fI];refine ⟨by constructor<;>decide,⟨hb,bO _,by omega,cl _ (by omega) (by omega)⟩,fun c1=>⟨by constructor<;>decide,⟨hb,bO _,by omega,cl _ (by omega) (by omega)⟩,fun c2=> ?_,fun c2=> ?_⟩,fun c1=> ?_⟩
 ·have: ¬(big s l<=9223372036854775807):=by
   unfold fP at c2;split at c2
   ·omega
   ·split at c2<;>omega
  simp only [fJ,okB];rw [Q8 (by omega),Rs this,Bool.and_false]
 ·have r1: -9223372036854775808<=big s l:=by
   unfold fP at c1;split at c1
   ·omega
   ·omega
  have r2:big s l<=9223372036854775807:=by
   unfold fP at c2;split at c2
   ·omega
   ·split at c2<;>omega
  refine ⟨⟨by omega,by omega⟩,⟨⟨trivial,trivial⟩,by omega,by omega, ?_⟩, ?_⟩
  ·rw [RC (by omega)];simp [big,val]
  ·rintro ⟨i,n,⟨⟩⟩ ⟨h1,h2,h3⟩;dsimp only at h1 h2 h3⊢;have step: ∀d,l[i.toNat]? =some d->0<=i->val (l.drop i.toNat)=d+10*val (l.drop (i+1).toNat)/\0<=d:=fun d hx h0=>by
    obtain ⟨q1,q2⟩:=List.getElem?_eq_some_iff.1 hx;rw [Rw q1,q2,show (i+1).toNat=i.toNat+1 by omega];exact ⟨rfl,(gi hd hx).1⟩
   have b0:=bv i.toNat;have b1:=bv (i+1).toNat;refine ⟨fun c3=>⟨fun c4=> ?_,fun c4=> ?_⟩,fun c3=> ?_⟩
   ·subst c4;simp only [big,if_true] at*;obtain ⟨d,hd0⟩: ∃d,l[i.toNat]? =some d:=⟨_,List.getElem?_eq_getElem (by omega)⟩
    obtain ⟨s1,s2⟩:=step d hd0 c3;refine ⟨⟨by omega,by omega⟩,⟨c3,h2⟩,fun x hx=> ?_⟩;rw [hd0] at hx;cases hx;refine ⟨⟨by omega,by omega⟩,⟨by omega,by omega⟩,⟨trivial,trivial⟩,⟨by omega,by omega, ?_⟩,by omega⟩;simp only [big,if_true];rw [show i-1+1=i by omega];omega
   ·subst c4;simp only [big,if_false,Rx] at*;obtain ⟨d,hd0⟩: ∃d,l[i.toNat]? =some d:=⟨_,List.getElem?_eq_getElem (by omega)⟩
    obtain ⟨s1,s2⟩:=step d hd0 c3;refine ⟨⟨by omega,by omega⟩,⟨c3,h2⟩,fun x hx=> ?_⟩;rw [hd0] at hx;cases hx;refine ⟨⟨by omega,by omega⟩,⟨by omega,by omega⟩,⟨trivial,trivial⟩,⟨by omega,by omega, ?_⟩,by omega⟩;simp only [big,if_false,Rx];rw [show i-1+1=i by omega];omega
   ·have:i= -1:=by omega
    subst this;have e:n=big s l:=by simpa using h3
    simp only [fJ,okB];rw [Q_ ⟨r1,r2⟩,RB r1,RB r2,e];rfl
 ·have: ¬(-9223372036854775808<=big s l):=by
   unfold fP at c1;split at c1
   ·omega
   ·split at c1<;>omega
  simp only [fJ,okB];rw [Q8 (by omega),Rs this,Bool.false_and]
def NN:FSpec Tryz.prog:=mkF 164 (.c (.g (.c .b (.c (.p I) .z))) .z) [.int .i64, .bool] (fun x=>(fun (s:Bool) (l:List Int)=>(Big s l/\l.length<=1000000,fJ (big s l),okB (big s l),())) x.1.1 x.1.2.1) fun ⟨⟨s,l,_⟩,_⟩ h=>av (E:=J1 s l) (FT s l h) (ab rfl _ [] rfl rfl) Tryz.func164
def dX (z:Int):Int:=if okB z then 0 else 10
def J2 (s:Bool) (l:List Int):Env where
 P:=Tryz.prog
 ty:=aJ
 specs:=ai [NN]
def sM (s:Bool) (l:List Int):Prop:=
 (Big s l/\l.length<=(1000000:Nat))/\((!okB (big s l))=true->((0:Int),(10:Int),())=(fJ (big s l),dX (big s l),()))/\((!okB (big s l))=false->(fJ (big s l),(0:Int),())=(fJ (big s l),dX (big s l),()))
theorem FU (s:Bool) (l:List Int) (h:Big s l/\l.length<=1000000):sM s l:=by
 unfold sM dX;refine ⟨h,fun c=> ?_,fun c=> ?_⟩
 ·have c:okB (big s l)=false:=by simpa using c
  have:fJ (big s l)=0:=by
   unfold okB at c;unfold fJ;rw [RZ,Q6,Q6] at c;rw [Q8 (by omega)]
  rw [c,this];rfl
 ·have c:okB (big s l)=true:=by simpa using c
  rw [c];rfl
def NO:FSpec Tryz.prog:=mkF 117 (.c (.g (.c .b (.c (.p I) .z))) .z) [.int .i64, .int .i64] (fun x=>(fun (s:Bool) (l:List Int)=>(Big s l/\l.length<=1000000,fJ (big s l),dX (big s l),())) x.1.1 x.1.2.1) fun ⟨⟨s,l,_⟩,_⟩ h=>av (E:=J2 s l) (FU s l h) (ab rfl _ [] rfl rfl) Tryz.func117
end
section
open Go.Vm
abbrev M64:Int:=18446744073709551616
def InW (n:Int):Prop:=0<=n/\n<M64
theorem FV (x y c:Int) (h:InW x/\InW y/\0<=c/\c<=1):Ext Tryz.prog 268 [.int .u64 x, .int .u64 y, .int .u64 c] (.tuple [.int .u64 ((x+y+c)%M64), .int .u64 ((x+y+c)/M64)]):=by
 intro X vs hr;obtain ⟨u1,r1,rfl,a1,hr⟩:=hr.cons_inv;obtain ⟨u2,r2,rfl,a2,hr⟩:=hr.cons_inv;obtain ⟨u3,r3,rfl,a3,hr⟩:=hr.cons_inv;rw [hr.nil_inv,a1.int_inv,a2.int_inv,a3.int_inv];obtain ⟨⟨h1,_⟩,⟨h2,_⟩,h3,h4⟩:=h;refine ⟨.tuple #[.int .u64 ((x+y+c)%M64), .int .u64 ((x+y+c)/M64)], ?_,RepL.tuple2 (.cons .int (.cons .int .nil))⟩;have:=run_callFunc_extern Tryz.func268 (by kernel_rfl) (by kernel_rfl) (by kernel_rfl) (e:=add64Entry) (by kernel_rfl) #[.int .u64 x, .int .u64 y, .int .u64 c] X.w;rw [run_add64 x y c h1 h2 h3 h4] at this;exact this
def J3:ESpec Tryz.prog where
 f:=268
 run:=fun args=>match args with
  |[.int .u64 x, .int .u64 y, .int .u64 c]=>some (InW x/\InW y/\0<=c/\c<=1, .tuple [.int .u64 ((x+y+c)%M64), .int .u64 ((x+y+c)/M64)])
  |_=>none
 ok:=fun args pre r h hp=>by
  split at h
  ·cases h;exact FV _ _ _ hp
  ·cases h
theorem FW (x y b:Int) (h:InW x/\InW y/\0<=b/\b<=1):Ext Tryz.prog 269 [.int .u64 x, .int .u64 y, .int .u64 b] (.tuple [.int .u64 ((x-y-b)%M64), .int .u64 (if x<y+b then 1 else 0)]):=by
 intro X vs hr;obtain ⟨u1,r1,rfl,a1,hr⟩:=hr.cons_inv;obtain ⟨u2,r2,rfl,a2,hr⟩:=hr.cons_inv;obtain ⟨u3,r3,rfl,a3,hr⟩:=hr.cons_inv;rw [hr.nil_inv,a1.int_inv,a2.int_inv,a3.int_inv];obtain ⟨⟨h1,h5⟩,⟨h2,h6⟩,h3,h4⟩:=h;refine ⟨.tuple #[.int .u64 ((x-y-b)%M64), .int .u64 (if x<y+b then 1 else 0)], ?_,RepL.tuple2 (.cons .int (.cons .int .nil))⟩;have:=run_callFunc_extern Tryz.func269 (by kernel_rfl) (by kernel_rfl) (by kernel_rfl) (e:=sub64Entry) (by kernel_rfl) #[.int .u64 x, .int .u64 y, .int .u64 b] X.w;obtain ⟨x',rfl⟩:=Sn h1;obtain ⟨y',rfl⟩:=Sn h2;obtain ⟨b',rfl⟩:=Sn h3;have k:=run_sub64 (P:=Tryz.prog) x' y' b' (by omega) X.w;rw [show (#[.int .u64 (x':Int), .int .u64 (y':Int), .int .u64 (b':Int)]:Array Value)= #[.int .u64 x', .int .u64 y', .int .u64 b'] from rfl] at this;rw [k] at this;have e1:(((x'+18446744073709551616-y'-b')%18446744073709551616:Nat):Int)=((x':Int)-y'-b')%M64:=by
  simp only [M64] at*;omega
 have e2:(((if x'<y'+b' then 1 else 0:Nat)):Int)=if (x':Int)<(y':Int)+(b':Int) then 1 else 0:=by
  split<;>split<;>omega
 rw [e1,e2] at this;exact this
def J4:ESpec Tryz.prog where
 f:=269
 run:=fun args=>match args with
  |[.int .u64 x, .int .u64 y, .int .u64 c]=>some (InW x/\InW y/\0<=c/\c<=1, .tuple [.int .u64 ((x-y-c)%M64), .int .u64 (if x<y+c then 1 else 0)])
  |_=>none
 ok:=fun args pre r h hp=>by
  split at h
  ·cases h;exact FW _ _ _ hp
  ·cases h
def J5 (a b c d:Int):Env where
 P:=Tryz.prog
 ty:=aJ
 ext:=ja [J3]
abbrev J6:Ann:={slots:=bB 0 [.int .u64, .int .u64],boxes:=[],inv:=fun _ _=>True}
def FX (a:Int) (b:Int) (c:Int) (d:Int):Prop:=
 (InW b/\InW d/\0<=(0:Int)/\0<=(1:Int))/\(InW a/\InW c/\0<=(b+d+(0:Int))/M64/\(b+d+(0:Int))/M64<=1)/\True/\((a+c+(b+d+(0:Int))/M64)%M64,(b+d+(0:Int))%M64,())=((a+c+(b+d)/M64)%M64,(b+d)%M64,())
theorem FY (a b c d:Int) (h:InW a/\InW b/\InW c/\InW d):FX a b c d:=by
 obtain ⟨ha,hb,hc,hd⟩:=h;refine ⟨⟨hb,hd,by omega,by omega⟩,⟨ha,hc, ?_, ?_⟩,trivial, ?_⟩
 ·simp only [InW,M64] at*;omega
 ·simp only [InW,M64] at*;omega
 ·simp only [Sc]
set_option maxRecDepth 20000
def NP:FSpec Tryz.prog:=mkG 258 (.c (.g (.c (.i .u64) (.c (.i .u64) .z))) (.c (.g (.c (.i .u64) (.c (.i .u64) .z))) .z)) (fun x=>(fun (a b c d:Int)=>(InW a/\InW b/\InW c/\InW d,(.agg [.int .u64 ((a+c+(b+d)/M64)%M64), .int .u64 ((b+d)%M64)]))) x.1.1 x.1.2.1 x.2.1.1 x.2.1.2.1) fun ⟨⟨a,b,_⟩,⟨c,d,_⟩,_⟩ h=>Pure.of_condG (E:=J5 a b c d) (sh:=[some 2]) (ann:=J6) (x:=(fun (a b c d:Int)=>((a+c+(b+d)/M64)%M64,(b+d)%M64,())) a b c d) (by kernel_rfl) (FY a b c d h) rfl (mV rfl [] [] _ rfl rfl rfl) mixed Tryz.func258
def jb (b d:Int):Int:=if b<d then 1 else 0
def J7 (a b c d:Int):Env where
 P:=Tryz.prog
 ty:=aJ
 ext:=ja [J4]
abbrev J8:Ann:={slots:=bB 0 [.int .u64, .int .u64],boxes:=[],inv:=fun _ _=>True}
def FZ (a:Int) (b:Int) (c:Int) (d:Int):Prop:=
 (InW b/\InW d/\0<=(0:Int)/\0<=(1:Int))/\(InW a/\InW c/\(0<=if b<d+(0:Int) then (1:Int) else (0:Int))/\(if b<d+(0:Int) then (1:Int) else (0:Int))<=1)/\True/\((a-c-if b<d+(0:Int) then (1:Int) else (0:Int))%M64,(b-d-(0:Int))%M64,())=((a-c-jb b d)%M64,(b-d)%M64,())
theorem F0 (a b c d:Int) (h:InW a/\InW b/\InW c/\InW d):FZ a b c d:=by
 obtain ⟨ha,hb,hc,hd⟩:=h;refine ⟨⟨hb,hd,by omega,by omega⟩,⟨ha,hc, ?_, ?_⟩,trivial, ?_⟩
 ·split<;>omega
 ·split<;>omega
 ·simp only [Sc,Int.sub_zero,jb]
def NQ:FSpec Tryz.prog:=mkG 260 (.c (.g (.c (.i .u64) (.c (.i .u64) .z))) (.c (.g (.c (.i .u64) (.c (.i .u64) .z))) .z)) (fun x=>(fun (a b c d:Int)=>(InW a/\InW b/\InW c/\InW d,(.agg [.int .u64 ((a-c-jb b d)%M64), .int .u64 ((b-d)%M64)]))) x.1.1 x.1.2.1 x.2.1.1 x.2.1.2.1) fun ⟨⟨a,b,_⟩,⟨c,d,_⟩,_⟩ h=>Pure.of_condG (E:=J7 a b c d) (sh:=[some 2]) (ann:=J8) (x:=(fun (a b c d:Int)=>((a-c-jb b d)%M64,(b-d)%M64,())) a b c d) (by kernel_rfl) (F0 a b c d h) rfl (mV rfl [] [] _ rfl rfl rfl) mixed Tryz.func260
def hiW (n:Int):Int:=if n<0 then 18446744073709551615 else 0
def J9 (n:Int):Env where
 P:=Tryz.prog
 ty:=aJ
 wrap:=fun|6=>true|9=>true|_=>false
abbrev J_:Ann:={slots:=bB 0 [.int .u64, .int .u64],boxes:=[],inv:=fun _ _=>True}
def sN (n:Int):Prop:=
 (decide (n<0)=true->True/\((18446744073709551615:Int),IntKind.u64.wrap n,())=(hiW n,n%M64,()))/\(decide (n<0)=false->True/\((0:Int),IntKind.u64.wrap n,())=(hiW n,n%M64,()))
theorem F1 (n:Int):sN n:=by
 simp only [sN,Q7,Q6];have e:IntKind.u64.wrap n=n%M64:=by rw [IntKind.wrap_u64]
 refine ⟨fun h=>⟨trivial, ?_⟩,fun h=>⟨trivial, ?_⟩⟩
 ·simp only [hiW,Q_ h,e]
 ·simp only [hiW,Q8 h,e]
def lE:FSpec Tryz.prog:=mkG 256 (.c .j .z) (fun x=>(fun (n:Int)=>(True,(.agg [.int .u64 (hiW n), .int .u64 (n%M64)]))) x.1) fun ⟨n,_⟩ _=>Pure.of_condG (E:=J9 n) (sh:=[some 2]) (ann:=J_) (x:=(fun (n:Int)=>(hiW n,n%M64,())) n) (by kernel_rfl) (F1 n) rfl (ab rfl [] [] rfl rfl) mixed Tryz.func256
def A4 (a b c d:Int):Env where
 P:=Tryz.prog
 ty:=aJ
 specs:=ai [NP]
abbrev A5:Ann:={slots:=bB 0 [.int .u64, .int .u64],boxes:=[],inv:=fun _ _=>True}
def xP (a:Int) (b:Int) (c:Int) (d:Int):Prop:=
 (InW c/\InW d/\InW a/\InW b)/\True/\((c+a+(d+b)/M64)%M64,(d+b)%M64,())=((c+a+(d+b)/M64)%M64,(d+b)%M64,())
theorem xQ (a b c d:Int) (h:InW a/\InW b/\InW c/\InW d):xP a b c d:=by
 obtain ⟨ha,hb,hc,hd⟩:=h;exact ⟨⟨hc,hd,ha,hb⟩,trivial,rfl⟩
def sO:FSpec Tryz.prog:=mkG 257 (.c (.g (.c (.i .u64) (.c (.i .u64) .z))) (.c (.f (.c (.i .u64) (.c (.i .u64) .z))) .z)) (fun x=>(fun (a b c d:Int)=>(InW a/\InW b/\InW c/\InW d,(.agg [.int .u64 ((c+a+(d+b)/M64)%M64), .int .u64 ((d+b)%M64)]))) x.1.1 x.1.2.1 x.2.1.1 x.2.1.2.1) fun ⟨⟨a,b,_⟩,⟨c,d,_⟩,_⟩ h=>Pure.of_condG (E:=A4 a b c d) (sh:=[some 2]) (ann:=A5) (x:=(fun (a b c d:Int)=>((c+a+(d+b)/M64)%M64,(d+b)%M64,())) a b c d) (by kernel_rfl) (xQ a b c d h) rfl (ab rfl _ [] rfl rfl) mixed Tryz.func257
def dT (s:Int×Int) (n:Int):Int×Int:=((s.1+hiW n+(s.2+n%M64)/M64)%M64,(s.2+n%M64)%M64)
def A6 (l:List Int) (a b i hi lo:Int):Prop:=0<=i/\i<=l.length/\(hi,lo)=(l.take i.toNat).foldl dT (a,b)/\InW hi/\InW lo
def e_ (l:List Int) (a b:Int):Env where
 P:=Tryz.prog
 ty:=aJ
 specs:=ai [lE,sO]
 pins:=[9000]
 heads:=fun
  |1=>some {slots:=[(9, .int .i64)],boxes:=[(9000,[.int .u64, .int .u64])],inv:=fun _ (x:Int×Int×Int×Unit)=>A6 l a b x.1 x.2.1 x.2.2.1,measure:=fun _ (x:Int×Int×Int×Unit)=>(l.length-x.1).toNat}
  |_=>none
abbrev lF:Ann:={slots:=bB 0 [],boxes:=[(9000,[.int .u64, .int .u64])],inv:=fun _ _=>True}
def A7 (l:List Int) (a b:Int):Prop:=vc (e_ l a b) (ey Tryz.f255) ⟨(mW Tryz.f255 [.list .tmp I l, .fn (.func 257) [] [.ptr 9000 0], .ptr 9000 0]).s,[(9000, .box [.int .u64 a, .int .u64 b])]⟩ (qy (e_ l a b).P Tryz.f255.results.toList [] (e_ l a b).pins lF ((l.foldl dT (a,b)).1,(l.foldl dT (a,b)).2,()))
def j9 (l:List Int) (a:Int) (b:Int):Prop:=
 (True/\A6 l a b 0 a b)/\∀(x:Int×Int×Int×Unit),A6 l a b x.1 x.2.1 x.2.2.1->(decide (x.1<l.length)=true->(0<=x.1/\x.1<l.length)/\∀(x_1:Int),l[x.1.toNat]? =some x_1->True/\(InW (hiW x_1)/\InW (x_1%M64)/\InW x.2.1/\InW x.2.2.1)/\(au (x.1+1))/\True/\A6 l a b (x.1+1) ((x.2.1+hiW x_1+(x.2.2.1+x_1%M64)/M64)%M64) ((x.2.2.1+x_1%M64)%M64)/\(l.length-(x.1+1)).toNat<(l.length-x.1).toNat)/\(decide (x.1<l.length)=false->True/\(x.2.1,x.2.2.1,())=((List.foldl dT (a,b) l).1,(List.foldl dT (a,b) l).2,()))
theorem OT (n:Int):InW (hiW n):=by
 unfold hiW InW M64;split<;>omega
theorem oa (n:Int):InW (n%M64):=⟨Int.emod_nonneg _ (by decide),Int.emod_lt_of_pos _ (by decide)⟩
theorem F2 {l:List Int} {a b i hi lo y:Int} (h:A6 l a b i hi lo) (hl:i<l.length) (hy:l[i.toNat]? =some y):A6 l a b (i+1) ((hi+hiW y+(lo+y%M64)/M64)%M64) ((lo+y%M64)%M64):=by
 obtain ⟨h1,h2,h3,_,_⟩:=h;refine ⟨by omega,by omega, ?_,oa _,oa _⟩;have e:(i+1).toNat=i.toNat+1:=by omega
 rw [e,RD,hy,List.foldl_append,<-h3];rfl
theorem Ka {l:List Int} {a b i hi lo:Int} (h:A6 l a b i hi lo) (hl: ¬i<l.length):(hi,lo)=l.foldl dT (a,b):=by
 obtain ⟨h1,h2,h3,_,_⟩:=h;rw [h3,Rh (by omega)]
theorem rN (l:List Int) (a b:Int) (h:l.length<=1000000000/\InW a/\InW b):j9 l a b:=by
 obtain ⟨hl,ha,hb⟩:=h;refine ⟨⟨trivial,by omega,by omega,by simp,ha,hb⟩, ?_⟩;rintro ⟨i,hi,lo,⟨⟩⟩ hI;simp only [Q7,Q6] at*;have hb:=hI.1;refine ⟨fun hlt=>⟨⟨hb,hlt⟩,fun y hy=>⟨trivial,⟨OT y,oa y,hI.2.2.2.1,hI.2.2.2.2⟩,by omega,trivial,F2 hI hlt hy,by omega⟩⟩,fun hge=>⟨trivial, ?_⟩⟩;have:=Ka hI hge;rw [<-this]
theorem rO (l:List Int) (a b:Int):A7 l a b=j9 l a b:=by kernel_rfl
set_option maxRecDepth 20000 in
theorem uP (l:List Int) (a b:Int) (h:l.length<=1000000000/\InW a/\InW b):UpdC Tryz.prog 255 [.list .tmp I l, .fn (.func 257) [] [.ptr 9000 0], .ptr 9000 0] [(9000, .box [.int .u64 a, .int .u64 b])]
 (.tuple []) [(9000, .box [.int .u64 (l.foldl dT (a,b)).1, .int .u64 (l.foldl dT (a,b)).2])]:=
 UpdC.of_vcG (E:=e_ l a b) (sh:=[]) (ann:=lF) (x:=((l.foldl dT (a,b)).1,(l.foldl dT (a,b)).2,())) (fn:=Tryz.f255) (c:=ey Tryz.f255) (ab (P:=Tryz.prog) rfl [lE,sO] [] rfl rfl) mixed Tryz.func255 rfl rfl rfl rfl (by
  have:=rN l a b h;rw [<-rO] at this;exact this)
def qz (l:List Int) (a b:Int):Prop×V×Store:=(l.length<=1000000000/\InW a/\InW b, .tuple [],[(9000, .box [.int .u64 (l.foldl dT (a,b)).1, .int .u64 (l.foldl dT (a,b)).2])])
def oc:OSpec Tryz.prog where
 f:=255
 run:=fun args σ=>match args,σ with
  |[v0, .fn (.func 257) [] [.ptr 9000 0], .ptr 9000 0],[(9000, .box [.int .u64 a, .int .u64 b])]=>(match (asL I v0:Option (List Int)) with|some l=>some (qz l a b)|none=>none)
  |_,_=>none
 ok:=fun args σ pre r σ' h hp=>by
  try dsimp only at h
  split at h
  ·rename_i v0 a b;cases h0:(asL I v0:Option (List Int)) with
   |none=>rw [h0] at h;cases h
   |some l=>
    rw [h0] at h;try dsimp only at h
    have h:=Option.some.inj h;unfold qz at h;cases h;exact (uP l a b hp).weak (.cons (aT h0) (.cons (Weak.refl _) (.cons (Weak.refl _) .nil)))
  ·cases h
def xR (a b c d:Int):Env where
 P:=Tryz.prog
 ty:=aJ
 specs:=ai [NQ]
abbrev xS:Ann:={slots:=bB 0 [.int .u64, .int .u64],boxes:=[],inv:=fun _ _=>True}
def uQ (a:Int) (b:Int) (c:Int) (d:Int):Prop:=
 (InW c/\InW d/\InW a/\InW b)/\True/\((c-a-jb d b)%M64,(d-b)%M64,())=((c-a-jb d b)%M64,(d-b)%M64,())
theorem uR (a b c d:Int) (h:InW a/\InW b/\InW c/\InW d):uQ a b c d:=by
 obtain ⟨ha,hb,hc,hd⟩:=h;exact ⟨⟨hc,hd,ha,hb⟩,trivial,rfl⟩
def qA:FSpec Tryz.prog:=mkG 259 (.c (.g (.c (.i .u64) (.c (.i .u64) .z))) (.c (.f (.c (.i .u64) (.c (.i .u64) .z))) .z)) (fun x=>(fun (a b c d:Int)=>(InW a/\InW b/\InW c/\InW d,(.agg [.int .u64 ((c-a-jb d b)%M64), .int .u64 ((d-b)%M64)]))) x.1.1 x.1.2.1 x.2.1.1 x.2.1.2.1) fun ⟨⟨a,b,_⟩,⟨c,d,_⟩,_⟩ h=>Pure.of_condG (E:=xR a b c d) (sh:=[some 2]) (ann:=xS) (x:=(fun (a b c d:Int)=>((c-a-jb d b)%M64,(d-b)%M64,())) a b c d) (by kernel_rfl) (uR a b c d h) rfl (ab rfl _ [] rfl rfl) mixed Tryz.func259
def jc (s:Int×Int) (n:Int):Int×Int:=((s.1-hiW n-jb s.2 (n%M64))%M64,(s.2-n%M64)%M64)
def A8 (l:List Int) (a b i hi lo:Int):Prop:=0<=i/\i<=l.length/\(hi,lo)=(l.take i.toNat).foldl jc (a,b)/\InW hi/\InW lo
def eI (l:List Int) (a b:Int):Env where
 P:=Tryz.prog
 ty:=aJ
 specs:=ai [lE,qA]
 pins:=[9000]
 heads:=fun
  |1=>some {slots:=[(9, .int .i64)],boxes:=[(9000,[.int .u64, .int .u64])],inv:=fun _ (x:Int×Int×Int×Unit)=>A8 l a b x.1 x.2.1 x.2.2.1,measure:=fun _ (x:Int×Int×Int×Unit)=>(l.length-x.1).toNat}
  |_=>none
abbrev j_:Ann:={slots:=bB 0 [],boxes:=[(9000,[.int .u64, .int .u64])],inv:=fun _ _=>True}
def xT (l:List Int) (a b:Int):Prop:=vc (eI l a b) (ey Tryz.f255) ⟨(mW Tryz.f255 [.list .tmp I l, .fn (.func 259) [] [.ptr 9000 0], .ptr 9000 0]).s,[(9000, .box [.int .u64 a, .int .u64 b])]⟩ (qy (eI l a b).P Tryz.f255.results.toList [] (eI l a b).pins j_ ((l.foldl jc (a,b)).1,(l.foldl jc (a,b)).2,()))
def jd (l:List Int) (a:Int) (b:Int):Prop:=
 (True/\A8 l a b 0 a b)/\∀(x:Int×Int×Int×Unit),A8 l a b x.1 x.2.1 x.2.2.1->(decide (x.1<l.length)=true->(0<=x.1/\x.1<l.length)/\∀(x_1:Int),l[x.1.toNat]? =some x_1->True/\(InW (hiW x_1)/\InW (x_1%M64)/\InW x.2.1/\InW x.2.2.1)/\(au (x.1+1))/\True/\A8 l a b (x.1+1) ((x.2.1-hiW x_1-jb x.2.2.1 (x_1%M64))%M64) ((x.2.2.1-x_1%M64)%M64)/\(l.length-(x.1+1)).toNat<(l.length-x.1).toNat)/\(decide (x.1<l.length)=false->True/\(x.2.1,x.2.2.1,())=((List.foldl jc (a,b) l).1,(List.foldl jc (a,b) l).2,()))
theorem F3 {l:List Int} {a b i hi lo y:Int} (h:A8 l a b i hi lo) (hl:i<l.length) (hy:l[i.toNat]? =some y):A8 l a b (i+1) ((hi-hiW y-jb lo (y%M64))%M64) ((lo-y%M64)%M64):=by
 obtain ⟨h1,h2,h3,_,_⟩:=h;refine ⟨by omega,by omega, ?_,oa _,oa _⟩;have e:(i+1).toNat=i.toNat+1:=by omega
 rw [e,RD,hy,List.foldl_append,<-h3];rfl
theorem Kb {l:List Int} {a b i hi lo:Int} (h:A8 l a b i hi lo) (hl: ¬i<l.length):(hi,lo)=l.foldl jc (a,b):=by
 obtain ⟨h1,h2,h3,_,_⟩:=h;rw [h3,Rh (by omega)]
theorem qB (l:List Int) (a b:Int) (h:l.length<=1000000000/\InW a/\InW b):jd l a b:=by
 obtain ⟨hl,ha,hb⟩:=h;refine ⟨⟨trivial,by omega,by omega,by simp,ha,hb⟩, ?_⟩;rintro ⟨i,hi,lo,⟨⟩⟩ hI;simp only [Q7,Q6] at*;have hb:=hI.1;refine ⟨fun hlt=>⟨⟨hb,hlt⟩,fun y hy=>⟨trivial,⟨OT y,oa y,hI.2.2.2.1,hI.2.2.2.2⟩,by omega,trivial,F3 hI hlt hy,by omega⟩⟩,fun hge=>⟨trivial, ?_⟩⟩;have:=Kb hI hge;rw [<-this]
theorem qC (l:List Int) (a b:Int):xT l a b=jd l a b:=by kernel_rfl
set_option maxRecDepth 20000 in
theorem rP (l:List Int) (a b:Int) (h:l.length<=1000000000/\InW a/\InW b):UpdC Tryz.prog 255 [.list .tmp I l, .fn (.func 259) [] [.ptr 9000 0], .ptr 9000 0] [(9000, .box [.int .u64 a, .int .u64 b])]
 (.tuple []) [(9000, .box [.int .u64 (l.foldl jc (a,b)).1, .int .u64 (l.foldl jc (a,b)).2])]:=
 UpdC.of_vcG (E:=eI l a b) (sh:=[]) (ann:=j_) (x:=((l.foldl jc (a,b)).1,(l.foldl jc (a,b)).2,())) (fn:=Tryz.f255) (c:=ey Tryz.f255) (ab (P:=Tryz.prog) rfl [lE,qA] [] rfl rfl) mixed Tryz.func255 rfl rfl rfl rfl (by
  have:=qB l a b h;rw [<-qC] at this;exact this)
def od (l:List Int) (a b:Int):Prop×V×Store:=(l.length<=1000000000/\InW a/\InW b, .tuple [],[(9000, .box [.int .u64 (l.foldl jc (a,b)).1, .int .u64 (l.foldl jc (a,b)).2])])
def lG:OSpec Tryz.prog where
 f:=255
 run:=fun args σ=>match args,σ with
  |[v0, .fn (.func 259) [] [.ptr 9000 0], .ptr 9000 0],[(9000, .box [.int .u64 a, .int .u64 b])]=>(match (asL I v0:Option (List Int)) with|some l=>some (od l a b)|none=>none)
  |_,_=>none
 ok:=fun args σ pre r σ' h hp=>by
  try dsimp only at h
  split at h
  ·rename_i v0 a b;cases h0:(asL I v0:Option (List Int)) with
   |none=>rw [h0] at h;cases h
   |some l=>
    rw [h0] at h;try dsimp only at h
    have h:=Option.some.inj h;unfold od at h;cases h;exact (rP l a b hp).weak (.cons (aT h0) (.cons (Weak.refl _) (.cons (Weak.refl _) .nil)))
  ·cases h
def oH (a b:Int):Int×Int:=if hiW (IntKind.i64.wrap b)=a/\IntKind.i64.wrap b%M64=b then (IntKind.i64.wrap b,0) else (0,10)
def Kd (a b:Int):Env where
 P:=Tryz.prog
 ty:=aJ
 specs:=ai [lE]
 wrap:=fun|7=>true|_=>false
def sP (a:Int) (b:Int):Prop:=
 True/\((!(decide (hiW (IntKind.i64.wrap b)=a)&&(decide (IntKind.i64.wrap b%M64=b)&&true)))=true->((0:Int),(10:Int),())=((oH a b).1,(oH a b).2,()))/\((!(decide (hiW (IntKind.i64.wrap b)=a)&&(decide (IntKind.i64.wrap b%M64=b)&&true)))=false->(IntKind.i64.wrap b,(0:Int),())=((oH a b).1,(oH a b).2,()))
theorem F4 (a b:Int):sP a b:=by
 simp only [sP,Bool.and_true,Rb,Rd,Ri,RZ,Q7,Q6,true_and];refine ⟨fun h=> ?_,fun h=> ?_⟩
 ·have: ¬(hiW (IntKind.i64.wrap b)=a/\IntKind.i64.wrap b%M64=b):=fun hh=>by
   rcases h with h|h
   ·exact h hh.1
   ·exact h hh.2
  simp only [oH,Q8 this]
 ·simp only [oH,Q_ h]
def NR:FSpec Tryz.prog:=mkF 261 (.c (.g (.c (.i .u64) (.c (.i .u64) .z))) .z) [.int .i64, .int .i64] (fun x=>(fun (a b:Int)=>(True,(oH a b).1,(oH a b).2,())) x.1.1 x.1.2.1) fun ⟨⟨a,b,_⟩,_⟩ _=>av (E:=Kd a b) (F4 a b) (ab rfl _ [] rfl rfl) Tryz.func261
end
section
open Go.Vm
def NS:OSpec Tryz.prog where
 f:=255
 run:=fun args σ=>match oc.run args σ with
  |some x=>some x
  |none=>lG.run args σ
 ok:=fun args σ pre r σ' h hp=>by
  split at h
  ·rename_i x hx;cases h;exact oc.ok args σ pre r σ' hx hp
  ·exact lG.ok args σ pre r σ' h hp
def PO (l m:List Int):Int×Int:=m.foldl jc (l.foldl dT (0,0))
def eR (l m:List Int):Int×Int:=oH (PO l m).1 (PO l m).2
def NT (l m:List Int):Env where
 P:=Tryz.prog
 ty:=aJ
 specs:=ai [NR]
 upd:=bJ [NS.upd]
def Ke (l:List Int) (m:List Int):Prop:=
 (l.length<=(1000000000:Nat)/\InW 0/\InW 0)/\(m.length<=(1000000000:Nat)/\InW (List.foldl dT ((0:Int),(0:Int)) l).1/\InW (List.foldl dT ((0:Int),(0:Int)) l).2)/\True/\((oH (List.foldl jc ((List.foldl dT ((0:Int),(0:Int)) l).1,(List.foldl dT ((0:Int),(0:Int)) l).2) m).1 (List.foldl jc ((List.foldl dT ((0:Int),(0:Int)) l).1,(List.foldl dT ((0:Int),(0:Int)) l).2) m).2).1,(oH (List.foldl jc ((List.foldl dT ((0:Int),(0:Int)) l).1,(List.foldl dT ((0:Int),(0:Int)) l).2) m).1 (List.foldl jc ((List.foldl dT ((0:Int),(0:Int)) l).1,(List.foldl dT ((0:Int),(0:Int)) l).2) m).2).2,())=((eR l m).1,(eR l m).2,())
theorem JH {l:List Int}: ∀{s:Int×Int},InW s.1/\InW s.2->InW (l.foldl dT s).1/\InW (l.foldl dT s).2:=by
 induction l with
 |nil=>exact fun h=>h
 |cons a r ih=>exact fun _=>ih ⟨oa _,oa _⟩
theorem Kf (l m:List Int) (h:l.length<=1000000000/\m.length<=1000000000):Ke l m:=by
 have h0:InW 0:=⟨by decide,by decide⟩
 have h1:=JH (l:=l) (s:=(0,0)) ⟨h0,h0⟩;exact ⟨⟨h.1,h0,h0⟩,⟨h.2,h1.1,h1.2⟩,trivial,rfl⟩
set_option maxRecDepth 20000
def PK:FSpec Tryz.prog:=mkF 241 (.c (.l I) (.c (.l I) .z)) [.int .i64, .int .i64] (fun x=>(fun (l m:List Int)=>(l.length<=1000000000/\m.length<=1000000000,(eR l m).1,(eR l m).2,())) x.1 x.2.1) fun ⟨l,m,_⟩ h=>av (E:=NT l m) (Kf l m h) (ab rfl _ _ rfl rfl) Tryz.func241
end
end
end Go.Proofs.YtabicbgeoiilmaaGreatDoor
