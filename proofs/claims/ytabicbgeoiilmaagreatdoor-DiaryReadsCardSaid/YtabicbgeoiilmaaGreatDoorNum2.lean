/-
  num.Net, num.Sum.
-/
import Derived.Test.YtabicbgeoiilmaaGreatDoorSeat
import Derived.Shelf.Spec.BitsCarry
set_option linter.unusedVariables false
section
namespace Go.Proofs.YtabicbgeoiilmaaGreatDoor
open Go.Vm
def digs (n:Nat):List Int:=if h:n=0 then [] else ((n%10:Nat):Int)::digs (n/10)
termination_by n
decreasing_by omega
theorem digs_zero:digs 0=[]:=by unfold digs;simp
theorem digs_pos {n:Nat} (h:n≠0):digs n=((n%10:Nat):Int)::digs (n/10):=by
 rw [digs,dif_neg h]
def InI (n:Int):Prop:= -9223372036854775808<=n/\n<=9223372036854775807
def InvOf (n x:Int) (D:List Int):Prop:=D++digs x.natAbs=digs n.natAbs/\(0<=n->0<=x)/\(n<0->x<=0)/\x.natAbs*10 ^ D.length<=n.natAbs
theorem invOf_0 (n:Int):InvOf n n []:=⟨by simp,fun h=>h,fun h=>by omega,by simp⟩
theorem invOf_len {n x:Int} {D:List Int} (h:InvOf n x D) (hx: ¬x=0) (hn:InI n):D.length<=19:=by
 obtain ⟨_,_,_,h4⟩:=h;by_cases hl:D.length<=19
 ·exact hl
 ·exfalso;have h1:10 ^ 20<=10 ^ D.length:=Nat.pow_le_pow_right (by omega) (by omega);have h2:1*10 ^ D.length<=x.natAbs*10 ^ D.length:=Nat.mul_le_mul_right _ (by omega);obtain ⟨h5,h6⟩:=hn;omega
theorem invOf_step {n x d:Int} {D:List Int} (h:InvOf n x D) (hx: ¬x=0) (hd:d=(x.natAbs%10:Nat)):InvOf n (x.tdiv 10) (D++[d]):=by
 obtain ⟨h1,h2,h3,h4⟩:=h;have e:(x.tdiv 10).natAbs=x.natAbs/10:=by rw [Int.natAbs_tdiv];rfl
 refine ⟨?_,fun h=>Int.tdiv_nonneg (h2 h) (by omega),fun h=> ?_, ?_⟩
 ·rw [e,List.append_assoc,hd,<-h1,digs_pos (n:=x.natAbs) (by omega)];rfl
 ·have:=h3 h;have h5:(-x).tdiv 10= -(x.tdiv 10):=Int.neg_tdiv ..;have h6:0<=(-x).tdiv 10:=Int.tdiv_nonneg (by omega) (by omega);omega
 ·rw [e];simp only [List.length_append,List.length_singleton,Nat.pow_succ];have:x.natAbs/10*(10 ^ D.length*10)<=x.natAbs*10 ^ D.length:=by
   rw [Nat.mul_comm (10 ^ D.length) 10,<-Nat.mul_assoc];exact Nat.mul_le_mul_right _ (Nat.div_mul_le_self _ _)
  omega
theorem invOf_end {n x:Int} {D:List Int} (h:InvOf n x D) (hx:x=0):D=digs n.natAbs:=by
 obtain ⟨h1,_⟩:=h;subst hx;simpa [digs_zero] using h1
theorem tmod10 (x:Int):(x.tmod 10).natAbs=x.natAbs%10:=by rw [Int.natAbs_tmod];rfl
theorem tdiv10 (x:Int):(x.tdiv 10).natAbs=x.natAbs/10:=by rw [Int.natAbs_tdiv];rfl
noncomputable def env_of (n:Int):Env where
 P:=Tryz.prog
 ty:=tys0
 heads:=fun
  |3=>some {slots:=[(4, .int .i64)],boxes:=[(3,[.bool, .slc 5000 I])],keep:=[2],inv:=fun _ (x:Int×Bool×List Int×Unit)=>x.2.1=decide (n<0)/\InvOf n x.1 x.2.2.1,measure:=fun _ (x:Int×Bool×List Int×Unit)=>x.1.natAbs}
  |_=>none
abbrev ann_of:Ann:={slots:=numP 0 [.bool, .slc 5000 I],boxes:=[],inv:=fun _ _=>True}
def g_of_vc (n:Int):Prop:=
 ((some (Obj.box [V.kb false,V.nils])=some (Obj.box [V.kb false,V.nils])/\True)/\decide (n<(0:Int))=decide (n<(0:Int))/\InvOf n n [])/\∀(x:Int×Bool×List Int×Unit),x.2.1=decide (n<(0:Int))/\InvOf n x.1 x.2.2.1->((!decide (x.1=(0:Int)))=true->(10:Int)≠(0:Int)/\(decide (x.1.tmod (10:Int)<(0:Int))=true->(-9223372036854775808<=(0:Int)-x.1.tmod (10:Int)/\(0:Int)-x.1.tmod (10:Int)<=9223372036854775807)/\((x.2.2.1.length+(1:Nat))*(8:Nat)<=(140737488355328:Nat)/\x.2.2.1.length+(1:Nat)<=(4611686018427387904:Nat))/\(10:Int)≠(0:Int)/\(-9223372036854775808<=x.1.tdiv (10:Int)/\x.1.tdiv (10:Int)<=9223372036854775807)/\(some (Obj.box [V.kb false,V.nils])=some (Obj.box [V.kb false,V.nils])/\True)/\(x.2.1=decide (n<(0:Int))/\InvOf n (x.1.tdiv (10:Int)) (x.2.2.1++[(0:Int)-x.1.tmod (10:Int)]))/\(x.1.tdiv (10:Int)).natAbs<x.1.natAbs)/\(decide (x.1.tmod (10:Int)<(0:Int))=false->((x.2.2.1.length+(1:Nat))*(8:Nat)<=(140737488355328:Nat)/\x.2.2.1.length+(1:Nat)<=(4611686018427387904:Nat))/\(10:Int)≠(0:Int)/\(-9223372036854775808<=x.1.tdiv (10:Int)/\x.1.tdiv (10:Int)<=9223372036854775807)/\(some (Obj.box [V.kb false,V.nils])=some (Obj.box [V.kb false,V.nils])/\True)/\(x.2.1=decide (n<(0:Int))/\InvOf n (x.1.tdiv (10:Int)) (x.2.2.1++[x.1.tmod (10:Int)]))/\(x.1.tdiv (10:Int)).natAbs<x.1.natAbs))/\((!decide (x.1=(0:Int)))=false->True/\(x.2.1,x.2.2.1,())=(decide (n<(0:Int)),digs n.natAbs,()))
theorem g_of_ok (n:Int) (h:InI n):g_of_vc n:=by
 refine ⟨⟨⟨rfl,trivial⟩,rfl,invOf_0 n⟩, ?_⟩;rintro ⟨x,b,D,⟨⟩⟩ ⟨rfl,hI⟩;simp only [decide_eq_true_eq,decide_eq_false_iff_not,Bool.not_eq_true',Bool.not_eq_false'] at*;have h10:=tmod10 x;have hd10:=tdiv10 x;obtain ⟨l1,l2⟩:=h;have hb:x.natAbs<=n.natAbs:=by
  have h4:=hI.2.2.2;have:x.natAbs*1<=x.natAbs*10 ^ D.length:=Nat.mul_le_mul_left _ (Nat.pow_pos (by omega));omega
 refine ⟨fun hx=>⟨by omega,fun hm=> ?_,fun hm=> ?_⟩,fun hx=>⟨trivial, ?_⟩⟩
 ·have hl:=invOf_len hI hx ⟨l1,l2⟩;exact ⟨by omega,by omega,by omega,by omega,⟨trivial,trivial⟩,⟨trivial,invOf_step hI hx (by omega)⟩,by omega⟩
 ·have hl:=invOf_len hI hx ⟨l1,l2⟩;exact ⟨by omega,by omega,by omega,⟨trivial,trivial⟩,⟨trivial,invOf_step hI hx (by omega)⟩,by omega⟩
 ·rw [invOf_end hI hx]
set_option maxRecDepth 20000
noncomputable def sp_of:FSpec Tryz.prog:=mkG 50 (.c .j .z) (fun x=>(fun (n:Int)=>(InI n,(.agg [.bool (decide (n<0)), .olist I (digs n.natAbs)]))) x.1) fun ⟨n,_⟩ h=>Pure.of_condG (E:=env_of n) (sh:=[some 2]) (ann:=ann_of) (x:=(fun (n:Int)=>(decide (n<0),digs n.natAbs,())) n) (by kernel_rfl) (g_of_ok n h) rfl (specs_ok rfl [] [] rfl rfl) mixed Tryz.func50
end Go.Proofs.YtabicbgeoiilmaaGreatDoor
end
section
namespace Go.Proofs.YtabicbgeoiilmaaGreatDoor
open Go.Vm
def val:List Int->Int
 |[]=>0
 |d::r=>d+10*val r
def Dig (l:List Int):Prop:= ∀d∈l,0<=d/\d<=9
def Can (l:List Int):Prop:=l=digs (val l).toNat
theorem dig_nil:Dig []:=fun d h=>by simp at h
theorem dig_cons {d:Int} {l:List Int}:Dig (d::l)↔(0<=d/\d<=9)/\Dig l:=by simp [Dig]
theorem dig_app {l m:List Int}:Dig (l++m)↔Dig l/\Dig m:=by
 constructor
 ·exact fun h=>⟨fun d hd=>h d (by simp [hd]),fun d hd=>h d (by simp [hd])⟩
 ·rintro ⟨h1,h2⟩ d hd;rcases List.mem_append.1 hd with h|h
  ·exact h1 d h
  ·exact h2 d h
theorem dig_get {l:List Int} (h:Dig l) {i:Nat} {d:Int} (hd:l[i]? =some d):0<=d/\d<=9:=h d (List.mem_of_getElem? hd)
theorem dig_take {l:List Int} (h:Dig l) (n:Nat):Dig (l.take n):=fun d hd=>h d (List.mem_of_mem_take hd)
theorem val_nonneg: ∀{l:List Int},Dig l->0<=val l
 |[],_=>by simp [val]
 |d::r,h=>by
  obtain ⟨h1,h2⟩:=dig_cons.1 h;have:=val_nonneg h2;simp only [val];omega
theorem val_app: ∀(l m:List Int),val (l++m)=val l+10 ^ l.length*val m
 |[],m=>by simp [val]
 |d::r,m=>by
  simp only [List.cons_append,val,val_app r m,List.length_cons,Int.pow_succ];rw [Int.mul_add,<-Int.mul_assoc,Int.mul_comm 10 (10 ^ r.length)];omega
theorem val_lt: ∀{l:List Int},Dig l->val l<10 ^ l.length
 |[],_=>by simp [val]
 |d::r,h=>by
  obtain ⟨h1,h2⟩:=dig_cons.1 h;have:=val_lt h2;simp only [val,List.length_cons,Int.pow_succ];omega
theorem val_digs (n:Nat):val (digs n)=n:=by
 induction n using Nat.strongRecOn with
 |ind n ih=>
  by_cases h:n=0
  ·subst h;simp [digs_zero,val]
  ·rw [digs_pos h];simp only [val,ih (n/10) (by omega)];omega
theorem digs_dig (n:Nat):Dig (digs n):=by
 induction n using Nat.strongRecOn with
 |ind n ih=>
  by_cases h:n=0
  ·subst h;rw [digs_zero];exact dig_nil
  ·rw [digs_pos h,dig_cons];exact ⟨by omega,ih (n/10) (by omega)⟩
theorem can_digs (n:Nat):Can (digs n):=by unfold Can;rw [val_digs];rfl
theorem Can.dig {l:List Int} (h:Can l):Dig l:=by rw [h];exact digs_dig _
theorem can_nil:Can []:=by simp [Can,val,digs_zero]
theorem digs_nil {n:Nat}:digs n=[]↔n=0:=by
 constructor
 ·intro h;by_cases h0:n=0
  ·exact h0
  ·rw [digs_pos h0] at h;cases h
 ·rintro rfl;exact digs_zero
theorem Can.nonneg {l:List Int} (h:Can l):0<=val l:=val_nonneg h.dig
theorem Can.nil_iff {l:List Int} (h:Can l):l=[]↔val l=0:=by
 have:=h.nonneg;rw [h,digs_nil,val_digs];omega
theorem can_of_last: ∀{l:List Int},Dig l->(∀d,l.getLast? =some d->d≠0)->Can l
 |[],_,_=>can_nil
 |[d],h,hl=>by
  obtain ⟨h1,_⟩:=dig_cons.1 h;have h0:d≠0:=hl d rfl;unfold Can;simp only [val,Int.mul_zero,Int.add_zero];rw [digs_pos (by omega),show d.toNat/10=0 by omega,digs_zero];congr 1;omega
 |d::e::r,h,hl=>by
  obtain ⟨h1,h2⟩:=dig_cons.1 h;have ih:=can_of_last h2 (fun x hx=>hl x (by rw [List.getLast?_cons_cons];exact hx));have hv:=ih.nonneg;have hne:val (e::r)≠0:=fun h0=>by have:=ih.nil_iff.2 h0;cases this
  show d::e::r=digs (d+10*val (e::r)).toNat;rw [digs_pos (by omega),show (d+10*val (e::r)).toNat/10=(val (e::r)).toNat by omega,<-ih];congr 1;omega
theorem val_zeros: ∀{l:List Int},(∀d∈l,d=0)->val l=0
 |[],_=>rfl
 |d::r,h=>by
  have h1:=h d (by simp);have h2:=val_zeros (l:=r) (fun x hx=>h x (List.mem_cons_of_mem _ hx));simp only [val,h1,h2];rfl
theorem val_split (l:List Int) (n:Nat):val l=val (l.take n)+10 ^ (l.take n).length*val (l.drop n):=by
 rw [<-val_app,List.take_append_drop]
theorem trim_law {l:List Int} (h:Dig l) {n:Nat} (hn:n<=l.length) (hz: ∀i d,n<=i->l[i]? =some d->d=0) (hl:0<n->∀d,l[n-1]? =some d->d≠0):l.take n=digs (val l).toNat:=by
 have h0:val (l.drop n)=0:=val_zeros fun d hd=>by
  obtain ⟨j,hj⟩:=List.getElem?_of_mem hd;rw [List.getElem?_drop] at hj;exact hz _ d (by omega) hj
 have hv:val l=val (l.take n):=by
  have:=val_split l n;rw [h0] at this;simpa using this
 rw [hv];refine can_of_last (dig_take h n) (fun d hd=> ?_);rw [List.getLast?_eq_getElem?,List.length_take,Nat.min_eq_left hn] at hd;have hn0:0<n:=by
  cases n with
  |zero=>simp at hd
  |succ n=>omega
 rw [List.getElem?_take,if_pos (by omega)] at hd;exact hl hn0 d hd
theorem can_low {l:List Int} (h:Can l) (hl:l≠[]):10 ^ (l.length-1)<=val l:=by
 have hc: ∀(n:Nat),n≠0->(10:Int) ^ ((digs n).length-1)<=n:=by
  intro n;induction n using Nat.strongRecOn with
  |ind n ih=>
   intro hn;rw [digs_pos hn];simp only [List.length_cons,Nat.add_sub_cancel];by_cases h0:n/10=0
   ·rw [h0,digs_zero];simp;omega
   ·have:=ih (n/10) (by omega) h0;have hp:(digs (n/10)).length=((digs (n/10)).length-1)+1:=by
     have:digs (n/10)≠[]:=fun e=>h0 (digs_nil.1 e);have:0<(digs (n/10)).length:=List.length_pos_iff.2 this;omega
    rw [hp,Int.pow_succ];omega
 have hv:=h.nonneg;have hne:(val l).toNat≠0:=fun e=>hl (h.nil_iff.2 (by omega));have:=hc _ hne;rw [<-h] at this;omega
theorem pow_le {a b:Nat} (h:a<=b):(10:Int) ^ a<=10 ^ b:=by
 obtain ⟨c,rfl⟩:=Nat.exists_eq_add_of_le h;rw [Int.pow_add];have h1:(1:Int)<=10 ^ c:=by
  have:0<(10:Int) ^ c:=Int.pow_pos (by omega);omega
 have h2:(0:Int)<=10 ^ a:=Int.le_of_lt (Int.pow_pos (by omega));calc (10:Int) ^ a=10 ^ a*1:=by rw [Int.mul_one]
  _<=10 ^ a*10 ^ c:=Int.mul_le_mul_of_nonneg_left h1 h2
theorem can_len_lt {l m:List Int} (h:Can l) (k:Can m) (hl:l.length<m.length):val l<val m:=by
 have h1:=val_lt h.dig;have h2:=can_low k (fun e=>by rw [e] at hl;simp at hl);have h3:=pow_le (a:=l.length) (b:=m.length-1) (by omega);omega
theorem can_len_le {l m:List Int} (h:Can l) (k:Can m) (hv:val l<=val m):l.length<=m.length:=by
 by_cases hl:l.length<=m.length
 ·exact hl
 ·have:=can_len_lt k h (by omega);omega
theorem digs_len {n k:Nat} (h:n<10 ^ k):(digs n).length<=k:=by
 by_cases hl:(digs n).length<=k
 ·exact hl
 ·exfalso;have h1:=can_low (can_digs n) (fun e=>by rw [e] at hl;simp at hl);rw [val_digs] at h1;have h2:=pow_le (a:=k) (b:=(digs n).length-1) (by omega);have h3:((10 ^ k:Nat):Int)=10 ^ k:=by simp
  omega
theorem take_snoc {l:List Int} {i:Nat} {d:Int} (hd:l[i]? =some d):l.take (i+1)=l.take i++[d]:=by
 rw [List.take_add_one,hd];rfl
theorem val_take_snoc {l:List Int} {i:Nat} {d:Int} (hd:l[i]? =some d):val (l.take (i+1))=val (l.take i)+10 ^ i*d:=by
 have hi:=(List.getElem?_eq_some_iff.1 hd).1;rw [take_snoc hd,val_app,List.length_take,Nat.min_eq_left (by omega)];simp [val]
theorem take_all {l:List Int} {i:Nat} (h:l.length<=i):l.take i=l:=List.take_of_length_le h
theorem cmp_law {l m:List Int} (h:Dig l) (k:Dig m) (hlen:l.length=m.length) {i:Nat} {a b:Int} (ha:l[i]? =some a) (hb:m[i]? =some b) (hd:l.drop (i+1)=m.drop (i+1)) (hab:a<b):val l<val m:=by
 have hi:=(List.getElem?_eq_some_iff.1 ha).1;have e1:=val_split l (i+1);have e2:=val_split m (i+1);rw [val_take_snoc ha,List.length_take,Nat.min_eq_left (by omega)] at e1;rw [val_take_snoc hb,List.length_take,Nat.min_eq_left (by omega)] at e2;rw [hd] at e1;have h1:=val_lt (dig_take h i);have h2:=val_nonneg (dig_take k i);rw [List.length_take,Nat.min_eq_left (by omega)] at h1;have hp:(0:Int)<10 ^ i:=Int.pow_pos (by omega);have h3:(10:Int) ^ i*(a+1)<=10 ^ i*b:=Int.mul_le_mul_of_nonneg_left (by omega) (Int.le_of_lt hp);rw [Int.mul_add,Int.mul_one] at h3;omega
def at0 (l:List Int) (i:Nat):Int:=(l[i]?).getD 0
theorem at0_dig {l:List Int} (h:Dig l) (i:Nat):0<=at0 l i/\at0 l i<=9:=by
 unfold at0;cases hx:l[i]? with
 |none=>simp
 |some d=>exact dig_get h hx
theorem at0_some {l:List Int} {i:Nat} {d:Int} (h:l[i]? =some d):at0 l i=d:=by simp [at0,h]
theorem at0_none {l:List Int} {i:Nat} (h:l.length<=i):at0 l i=0:=by simp [at0,h]
theorem val_take_at (l:List Int) (i:Nat):val (l.take (i+1))=val (l.take i)+10 ^ i*at0 l i:=by
 cases hx:l[i]? with
 |none=>
  have:=List.getElem?_eq_none_iff.1 hx;rw [take_all this,take_all (by omega),at0_none this];simp
 |some d=>rw [val_take_snoc hx,at0_some hx]
def MoreInv (l m:List Int) (i c:Int) (o:List Int):Prop:=0<=i/\0<=c/\c<=1/\i<=l.length+m.length+1/\(o.length:Int)=i/\Dig o/\val o+10 ^ i.toNat*c=val (l.take i.toNat)+val (m.take i.toNat)/\(l.length+m.length<i->c=0)
theorem more_0 (l m:List Int):MoreInv l m 0 0 []:=⟨by omega,by omega,by omega,by omega,by simp,dig_nil,by simp [val],fun _=>rfl⟩
theorem more_step {l m o:List Int} {i c d:Int} (hl:Dig l) (hm:Dig m) (h:MoreInv l m i c o) (hc:i<l.length∨i<m.length∨0<c) (hd:d=c+at0 l i.toNat+at0 m i.toNat):MoreInv l m (i+1) (d.tdiv 10) (o++[d.tmod 10]):=by
 obtain ⟨h1,h2,h3,h4,h5,h6,h7,h8⟩:=h;have a1:=at0_dig hl i.toNat;have a2:=at0_dig hm i.toNat;have ed:d.tdiv 10=d/10:=Int.tdiv_eq_ediv_of_nonneg (by omega);have em:d.tmod 10=d%10:=Int.tmod_eq_emod_of_nonneg (by omega);rw [ed,em];have hi:i<=l.length+m.length:=by
  rcases hc with hc|hc|hc
  ·omega
  ·omega
  ·by_cases hh:l.length+m.length<i
   ·have:=h8 hh;omega
   ·omega
 have e1:(i+1).toNat=i.toNat+1:=by omega
 refine ⟨by omega,by omega,by omega,by omega,by simp;omega, ?_, ?_,fun hlt=> ?_⟩
 ·rw [dig_app,dig_cons];exact ⟨h6,⟨by omega,by omega⟩,dig_nil⟩
 ·rw [e1,val_app,val_take_at,val_take_at,show o.length=i.toNat by omega];simp only [val,Int.mul_zero,Int.add_zero,Int.pow_succ];have e2:(10:Int) ^ i.toNat*d=10 ^ i.toNat*c+10 ^ i.toNat*at0 l i.toNat+10 ^ i.toNat*at0 m i.toNat:=by rw [hd,Int.mul_add,Int.mul_add]
  have e3:(10:Int) ^ i.toNat*(d%10)+10 ^ i.toNat*10*(d/10)=10 ^ i.toNat*d:=by
   rw [Int.mul_assoc,<-Int.mul_add];congr 1;omega
  omega
 ·have b1:at0 l i.toNat=0:=at0_none (by omega);have b2:at0 m i.toNat=0:=at0_none (by omega);omega
theorem more_end {l m o:List Int} {i c:Int} (h:MoreInv l m i c o) (h1: ¬i<l.length) (h2: ¬i<m.length) (h3: ¬0<c):Dig o/\val o=val l+val m:=by
 obtain ⟨k1,k2,k3,k4,k5,k6,k7,k8⟩:=h;obtain rfl:c=0:=by omega
 rw [take_all (by omega),take_all (by omega)] at k7;exact ⟨k6,by simpa using k7⟩
def FewInv (l m:List Int) (i c:Int) (o:List Int):Prop:=0<=i/\0<=c/\c<=1/\i<=l.length/\(o.length:Int)=i/\Dig o/\val o+val (m.take i.toNat)=val (l.take i.toNat)+10 ^ i.toNat*c
theorem few_0 (l m:List Int):FewInv l m 0 0 []:=⟨by omega,by omega,by omega,by omega,by simp,dig_nil,by simp [val]⟩
theorem few_step {l m o:List Int} {i c d e b:Int} (hl:Dig l) (hm:Dig m) (h:FewInv l m i c o) (hi:i<l.length) (hd:d=at0 l i.toNat-c-at0 m i.toNat) (he:(d<0/\e=d+10/\b=1)∨(¬d<0/\e=d/\b=0)):
 FewInv l m (i+1) b (o++[e]):=by
 obtain ⟨h1,h2,h3,h4,h5,h6,h7⟩:=h;have a1:=at0_dig hl i.toNat;have a2:=at0_dig hm i.toNat;have e1:(i+1).toNat=i.toNat+1:=by omega
 refine ⟨by omega,by omega,by omega,by omega,by simp;omega, ?_, ?_⟩
 ·rw [dig_app,dig_cons];exact ⟨h6,⟨by omega,by omega⟩,dig_nil⟩
 ·rw [e1,val_app,val_take_at,val_take_at,show o.length=i.toNat by omega];simp only [val,Int.mul_zero,Int.add_zero,Int.pow_succ];have e2:(10:Int) ^ i.toNat*d=10 ^ i.toNat*at0 l i.toNat-10 ^ i.toNat*c-10 ^ i.toNat*at0 m i.toNat:=by rw [hd,Int.mul_sub,Int.mul_sub]
  have e3:(10:Int) ^ i.toNat*e=10 ^ i.toNat*d+10 ^ i.toNat*10*b:=by
   rw [Int.mul_assoc,<-Int.mul_add];congr 1;omega
  omega
theorem few_end {l m o:List Int} {i c:Int} (hl:Can l) (hm:Can m) (hv:val m<=val l) (h:FewInv l m i c o) (h1: ¬i<l.length):Dig o/\val o=val l-val m:=by
 obtain ⟨k1,k2,k3,k4,k5,k6,k7⟩:=h;have hlen:=can_len_le hm hl hv;rw [take_all (by omega),take_all (by omega)] at k7;have h2:=val_lt k6;have h3:=val_nonneg k6;have hi:i.toNat=o.length:=by omega
 rw [hi] at k7;have hc:c=0:=by
  by_cases h0:c=0
  ·exact h0
  ·have:c=1:=by omega
   subst this;omega
 subst hc;exact ⟨k6,by omega⟩
def big (s:Bool) (l:List Int):Int:=if s then -(val l) else val l
def Big (s:Bool) (l:List Int):Prop:=Can l/\(s=true->l≠[])
theorem big_digs (n:Int):big (decide (n<0)) (digs n.natAbs)=n:=by
 unfold big;rw [val_digs];split
 ·rename_i h;simp at h;omega
 ·rename_i h;simp at h;omega
theorem Big_digs (n:Int):Big (decide (n<0)) (digs n.natAbs):=⟨can_digs _,fun h e=>by
 have:=digs_nil.1 e;simp at h;omega⟩
theorem big_neg {s:Bool} {l:List Int} (h:Big s l):decide (big s l<0)=s:=by
 have:=h.1.nonneg;unfold big;cases s with
 |false=>simp;omega
 |true=>
  have h0:val l≠0:=fun e=>h.2 rfl (h.1.nil_iff.2 e);simp;omega
theorem big_abs {s:Bool} {l:List Int} (h:Big s l):digs (big s l).natAbs=l:=by
 have:=h.1.nonneg;have e:(big s l).natAbs=(val l).toNat:=by unfold big;cases s<;>simp<;>omega
 rw [e];exact h.1.symm
end Go.Proofs.YtabicbgeoiilmaaGreatDoor
end
section
namespace Go.Proofs.YtabicbgeoiilmaaGreatDoor
open Go.Vm
def TrimInv (l:List Int) (n:Int):Prop:=0<=n/\n<=l.length/\∀(i:Nat) d,n<=i->l[i]? =some d->d=0
noncomputable def env_trim (l:List Int):Env where
 P:=Tryz.prog
 ty:=tys0
 heads:=fun
  |2=>some {slots:=[(3, .int .i64)],boxes:=[],inv:=fun _ (x:Int×Unit)=>TrimInv l x.1,measure:=fun _ (x:Int×Unit)=>x.1.toNat}
  |_=>none
def g_trim_vc (l:List Int):Prop:=
 (True/\TrimInv l (↑l.length:Int))/\∀(x:Int×Unit),TrimInv l x.1->(decide ((0:Int)<x.1)=true->(-9223372036854775808<=x.1-(1:Int)/\x.1-(1:Int)<=9223372036854775807)/\(0<=x.1-(1:Int)/\x.1-(1:Int)<(↑l.length:Int))/\∀(x_1:Int),l[(x.1-(1:Int)).toNat]? =some x_1->(decide (x_1=(0:Int))=true->(-9223372036854775808<=x.1-(1:Int)/\x.1-(1:Int)<=9223372036854775807)/\True/\TrimInv l (x.1-(1:Int))/\(x.1-(1:Int)).toNat<x.1.toNat)/\(decide (x_1=(0:Int))=false->(0<=x.1/\x.1<=(↑l.length:Int))/\(List.take x.1.toNat l,())=(digs (val l).toNat,())))/\(decide ((0:Int)<x.1)= !true->(0<=x.1/\x.1<=(↑l.length:Int))/\(List.take x.1.toNat l,())=(digs (val l).toNat,()))
theorem g_trim_ok (l:List Int) (h:Dig l/\l.length<=1000000000):g_trim_vc l:=by
 obtain ⟨hd,hl⟩:=h;refine ⟨⟨trivial,by omega,by omega,fun i d hi hx=> ?_⟩, ?_⟩
 ·have:=(List.getElem?_eq_some_iff.1 hx).1;omega
 ·rintro ⟨n,⟨⟩⟩ ⟨h1,h2,h3⟩;simp only [decide_eq_true_eq,decide_eq_false_iff_not,Bool.not_true] at*;have e: ∀(hn:0<n.toNat->∀d,l[n.toNat-1]? =some d->d≠0),List.take n.toNat l=digs (val l).toNat:=fun hn=>
   trim_law hd (by omega) (fun i d hi hx=>h3 i d (by omega) hx) hn
  refine ⟨fun hn=>⟨⟨by omega,by omega⟩,⟨by omega,by omega⟩,fun x hx=>⟨fun h0=>⟨⟨by omega,by omega⟩,trivial,⟨by omega,by omega,fun i d hi hd=> ?_⟩,by omega⟩,fun h0=>⟨⟨by omega,by omega⟩, ?_⟩⟩⟩,fun hn=>⟨⟨by omega,by omega⟩, ?_⟩⟩
  ·by_cases hin:n<=i
   ·exact h3 i d hin hd
   ·have:(n-1).toNat=i:=by omega
    rw [this,hd] at hx;cases hx;exact h0
  ·rw [e fun _ d hd=> ?_];have:n.toNat-1=(n-1).toNat:=by omega
   rw [this,hx] at hd;cases hd;exact h0
  ·rw [e fun h0=>by omega]
set_option maxRecDepth 20000
noncomputable def sp_trim:FSpec Tryz.prog:=mkF 163 (.c (.p I) .z) [.list .part I] (fun x=>(fun (l:List Int)=>(Dig l/\l.length<=1000000000,digs (val l).toNat,())) x.1) fun ⟨l,_⟩ h=>Pure.of_cond (E:=env_trim l) (by kernel_rfl) (g_trim_ok l h) (specs_ok rfl [] [] rfl rfl) mixed Tryz.func163
noncomputable def env_more (l m:List Int):Env where
 P:=Tryz.prog
 ty:=tys0
 specs:=specsOf [sp_trim]
 heads:=fun
  |4=>some {slots:=[(7, .int .i64),(6, .int .i64),(5, .slc 5000 I)],boxes:=[],inv:=fun _ (x:Int×Int×List Int×Unit)=>MoreInv l m x.1 x.2.1 x.2.2.1,measure:=fun _ (x:Int×Int×List Int×Unit)=>(l.length+m.length+2-x.1).toNat}
  |_=>none
 joins:=fun
  |6=>some {slots:=[],boxes:=[],keep:=[5000],inv:=fun st _=>st.int 7<l.length∨st.int 7<m.length∨0<st.int 6}
  |9=>some {slots:=[(8, .int .i64)],boxes:=[],keep:=[5000],inv:=fun st (x:Int×Unit)=>x.1=st.int 6+at0 l (st.int 7).toNat}
  |11=>some {slots:=[(8, .int .i64)],boxes:=[],keep:=[5000],inv:=fun st (x:Int×Unit)=>x.1=st.int 6+at0 l (st.int 7).toNat+at0 m (st.int 7).toNat}
  |13=>some {slots:=[(5, .list .part I)],boxes:=[],inv:=fun _ (x:List Int×Unit)=>Dig x.1/\x.1.length<=1000000000/\val x.1=val l+val m}
  |_=>none
def g_more_vc (l:List Int) (m:List Int):Prop:=
 ((True/\MoreInv l m (0:Int) (0:Int) [])/\∀(x:Int×Int×List Int×Unit),MoreInv l m x.1 x.2.1 x.2.2.1->((decide (x.1<(↑l.length:Int))=false->(decide (x.1<(↑m.length:Int))=false->(decide ((0:Int)<x.2.1)=true->(some (Obj.arr (0:Nat) I x.2.2.1)=some (Obj.arr (0:Nat) I x.2.2.1)/\True)/\(x.1<(↑l.length:Int)∨x.1<(↑m.length:Int)∨(0:Int)<x.2.1))/\(decide ((0:Int)<x.2.1)=false->True/\Dig x.2.2.1/\x.2.2.1.length<=(1000000000:Nat)/\val x.2.2.1=val l+val m))/\(decide (x.1<(↑m.length:Int))= !false->(some (Obj.arr (0:Nat) I x.2.2.1)=some (Obj.arr (0:Nat) I x.2.2.1)/\True)/\(x.1<(↑l.length:Int)∨x.1<(↑m.length:Int)∨(0:Int)<x.2.1)))/\(decide (x.1<(↑l.length:Int))= !false->(some (Obj.arr (0:Nat) I x.2.2.1)=some (Obj.arr (0:Nat) I x.2.2.1)/\True)/\(x.1<(↑l.length:Int)∨x.1<(↑m.length:Int)∨(0:Int)<x.2.1)))/\∀(x_1:Unit),x.1<(↑l.length:Int)∨x.1<(↑m.length:Int)∨(0:Int)<x.2.1->((decide (x.1<(↑l.length:Int))=true->(0<=x.1/\x.1<(↑l.length:Int))/\∀(x_2:Int),l[x.1.toNat]? =some x_2->(-9223372036854775808<=x.2.1+x_2/\x.2.1+x_2<=9223372036854775807)/\(some (Obj.arr (0:Nat) I x.2.2.1)=some (Obj.arr (0:Nat) I x.2.2.1)/\True)/\x.2.1+x_2=x.2.1+at0 l x.1.toNat)/\(decide (x.1<(↑l.length:Int))=false->(some (Obj.arr (0:Nat) I x.2.2.1)=some (Obj.arr (0:Nat) I x.2.2.1)/\True)/\x.2.1=x.2.1+at0 l x.1.toNat))/\∀(x_2:Int×Unit),x_2.1=x.2.1+at0 l x.1.toNat->((decide (x.1<(↑m.length:Int))=true->(0<=x.1/\x.1<(↑m.length:Int))/\∀(x_3:Int),m[x.1.toNat]? =some x_3->(-9223372036854775808<=x_2.1+x_3/\x_2.1+x_3<=9223372036854775807)/\(some (Obj.arr (0:Nat) I x.2.2.1)=some (Obj.arr (0:Nat) I x.2.2.1)/\True)/\x_2.1+x_3=x.2.1+at0 l x.1.toNat+at0 m x.1.toNat)/\(decide (x.1<(↑m.length:Int))=false->(some (Obj.arr (0:Nat) I x.2.2.1)=some (Obj.arr (0:Nat) I x.2.2.1)/\True)/\x_2.1=x.2.1+at0 l x.1.toNat+at0 m x.1.toNat))/\∀(x_3:Int×Unit),x_3.1=x.2.1+at0 l x.1.toNat+at0 m x.1.toNat->(10:Int)≠(0:Int)/\((x.2.2.1.length+(1:Nat))*(8:Nat)<=(140737488355328:Nat)/\x.2.2.1.length+(1:Nat)<=(4611686018427387904:Nat))/\(10:Int)≠(0:Int)/\(-9223372036854775808<=x_3.1.tdiv (10:Int)/\x_3.1.tdiv (10:Int)<=9223372036854775807)/\(-9223372036854775808<=x.1+1/\x.1+1<=9223372036854775807)/\True/\MoreInv l m (x.1+1) (x_3.1.tdiv (10:Int)) (x.2.2.1++[x_3.1.tmod (10:Int)])/\((↑l.length:Int)+(↑m.length:Int)+(2:Int)-(x.1+1)).toNat<((↑l.length:Int)+(↑m.length:Int)+(2:Int)-x.1).toNat)/\∀(x:List Int×Unit),Dig x.1/\x.1.length<=(1000000000:Nat)/\val x.1=val l+val m->(Dig x.1/\x.1.length<=(1000000000:Nat))/\(digs (val x.1).toNat,())=(digs (val l+val m).toNat,())
theorem g_more_ok (l m:List Int) (h:Dig l/\Dig m/\l.length<=100000000/\m.length<=100000000):g_more_vc l m:=by
 obtain ⟨hl,hm,l1,l2⟩:=h;refine ⟨⟨⟨trivial,more_0 l m⟩, ?_⟩, ?_⟩
 ·rintro ⟨i,c,o,⟨⟩⟩ hI;have hI0:=hI;obtain ⟨h1,h2,h3,h4,h5,h6,h7,h8⟩:=hI0;simp only [decide_eq_true_eq,decide_eq_false_iff_not,Bool.not_false] at*;refine ⟨⟨fun c1=>⟨fun c2=>⟨fun c3=>⟨⟨trivial,trivial⟩, .inr (.inr c3)⟩,fun c3=> ?_⟩,fun c2=>⟨⟨trivial,trivial⟩, .inr (.inl c2)⟩⟩,fun c1=>⟨⟨trivial,trivial⟩, .inl c1⟩⟩,fun _ hc=>⟨⟨fun c1=>⟨⟨h1,c1⟩,fun x hx=> ?_⟩,fun c1=>⟨⟨trivial,trivial⟩, ?_⟩⟩, ?_⟩⟩
  ·obtain ⟨e1,e2⟩:=more_end hI c1 c2 c3;exact ⟨trivial,e1,by omega,e2⟩
  ·have:=dig_get hl hx;exact ⟨⟨by omega,by omega⟩,⟨trivial,trivial⟩,by rw [at0_some hx]⟩
  ·rw [at0_none (l:=l) (by omega),Int.add_zero]
  ·rintro ⟨d,⟨⟩⟩ hd;have a1:=at0_dig hl i.toNat;have a2:=at0_dig hm i.toNat;dsimp only at hd⊢;refine ⟨⟨fun c1=>⟨⟨h1,c1⟩,fun x hx=> ?_⟩,fun c1=>⟨⟨trivial,trivial⟩, ?_⟩⟩, ?_⟩
   ·have:=dig_get hm hx;exact ⟨⟨by omega,by omega⟩,⟨trivial,trivial⟩,by rw [at0_some hx];omega⟩
   ·rw [at0_none (l:=m) (by omega),Int.add_zero];exact hd
   ·rintro ⟨e,⟨⟩⟩ he;dsimp only at he⊢;have ed:e.tdiv 10=e/10:=Int.tdiv_eq_ediv_of_nonneg (by omega);have hi:i<=l.length+m.length:=by
     rcases hc with hc|hc|hc
     ·omega
     ·omega
     ·by_cases hh:(l.length:Int)+m.length<i
      ·have:=h8 hh;omega
      ·omega
    refine ⟨by omega,⟨by omega,by omega⟩,by omega,⟨by omega,by omega⟩,⟨by omega,by omega⟩,trivial,more_step hl hm hI hc (by omega),by omega⟩
 ·rintro ⟨o,⟨⟩⟩ ⟨h1,h2,h3⟩;refine ⟨⟨h1,h2⟩, ?_⟩;rw [h3]
noncomputable def sp_more:FSpec Tryz.prog:=mkF 160 (.c (.l I) (.c (.l I) .z)) [.list .part I] (fun x=>(fun (l m:List Int)=>(Dig l/\Dig m/\l.length<=100000000/\m.length<=100000000,digs (val l+val m).toNat,())) x.1 x.2.1) fun ⟨l,m,_⟩ h=>Pure.of_cond (E:=env_more l m) (by kernel_rfl) (g_more_ok l m h) (specs_ok rfl _ [] rfl rfl) mixed Tryz.func160
noncomputable def env_fewer (l m:List Int):Env where
 P:=Tryz.prog
 ty:=tys0
 specs:=specsOf [sp_trim]
 heads:=fun
  |4=>some {slots:=[(7, .int .i64),(6, .int .i64),(5, .slc 5000 I),(8, .any)],boxes:=[],inv:=fun _ (x:Int×Int×List Int×Unit×Unit)=>FewInv l m x.1 x.2.1 x.2.2.1,measure:=fun _ (x:Int×Int×List Int×Unit×Unit)=>(l.length+2-x.1).toNat}
  |_=>none
 joins:=fun
  |9=>some {slots:=[(8, .int .i64)],boxes:=[],keep:=[5000],inv:=fun st (x:Int×Unit)=>x.1=at0 l (st.int 7).toNat-st.int 6-at0 m (st.int 7).toNat}
  |14=>some {slots:=[(5, .list .part I)],boxes:=[],inv:=fun _ (x:List Int×Unit)=>Dig x.1/\x.1.length<=1000000000/\val x.1=val l-val m}
  |_=>none
def g_fewer_vc (l:List Int) (m:List Int):Prop:=
 ((True/\FewInv l m (0:Int) (0:Int) [])/\∀(x:Int×Int×List Int×Unit×Unit),FewInv l m x.1 x.2.1 x.2.2.1->(decide (x.1<(↑l.length:Int))=true->(0<=x.1/\x.1<(↑l.length:Int))/\∀(x_1:Int),l[x.1.toNat]? =some x_1->(-9223372036854775808<=x_1-x.2.1/\x_1-x.2.1<=9223372036854775807)/\((decide (x.1<(↑m.length:Int))=true->(0<=x.1/\x.1<(↑m.length:Int))/\∀(x_2:Int),m[x.1.toNat]? =some x_2->(-9223372036854775808<=x_1-x.2.1-x_2/\x_1-x.2.1-x_2<=9223372036854775807)/\(some (Obj.arr (0:Nat) I x.2.2.1)=some (Obj.arr (0:Nat) I x.2.2.1)/\True)/\x_1-x.2.1-x_2=at0 l x.1.toNat-x.2.1-at0 m x.1.toNat)/\(decide (x.1<(↑m.length:Int))=false->(some (Obj.arr (0:Nat) I x.2.2.1)=some (Obj.arr (0:Nat) I x.2.2.1)/\True)/\x_1-x.2.1=at0 l x.1.toNat-x.2.1-at0 m x.1.toNat))/\∀(x_2:Int×Unit),x_2.1=at0 l x.1.toNat-x.2.1-at0 m x.1.toNat->(decide (x_2.1<(0:Int))=true->(-9223372036854775808<=x_2.1+(10:Int)/\x_2.1+(10:Int)<=9223372036854775807)/\((x.2.2.1.length+(1:Nat))*(8:Nat)<=(140737488355328:Nat)/\x.2.2.1.length+(1:Nat)<=(4611686018427387904:Nat))/\(-9223372036854775808<=x.1+1/\x.1+1<=9223372036854775807)/\True/\FewInv l m (x.1+1) (1:Int) (x.2.2.1++[x_2.1+(10:Int)])/\((↑l.length:Int)+(2:Int)-(x.1+1)).toNat<((↑l.length:Int)+(2:Int)-x.1).toNat)/\(decide (x_2.1<(0:Int))=false->((x.2.2.1.length+(1:Nat))*(8:Nat)<=(140737488355328:Nat)/\x.2.2.1.length+(1:Nat)<=(4611686018427387904:Nat))/\(-9223372036854775808<=x.1+1/\x.1+1<=9223372036854775807)/\True/\FewInv l m (x.1+1) (0:Int) (x.2.2.1++[x_2.1])/\((↑l.length:Int)+(2:Int)-(x.1+1)).toNat<((↑l.length:Int)+(2:Int)-x.1).toNat))/\(decide (x.1<(↑l.length:Int))=false->True/\Dig x.2.2.1/\x.2.2.1.length<=(1000000000:Nat)/\val x.2.2.1=val l-val m))/\∀(x:List Int×Unit),Dig x.1/\x.1.length<=(1000000000:Nat)/\val x.1=val l-val m->(Dig x.1/\x.1.length<=(1000000000:Nat))/\(digs (val x.1).toNat,())=(digs (val l-val m).toNat,())
theorem g_fewer_ok (l m:List Int) (h:Can l/\Can m/\val m<=val l/\l.length<=100000000):g_fewer_vc l m:=by
 obtain ⟨hl,hm,hv,l1⟩:=h;have dl:=hl.dig;have dm:=hm.dig;refine ⟨⟨⟨trivial,few_0 l m⟩, ?_⟩, ?_⟩
 ·rintro ⟨i,c,o,⟨⟩,⟨⟩⟩ hI;have hI0:=hI;obtain ⟨h1,h2,h3,h4,h5,h6,h7⟩:=hI0;simp only [decide_eq_true_eq,decide_eq_false_iff_not] at*;have a1:=at0_dig dl i.toNat;have a2:=at0_dig dm i.toNat;refine ⟨fun c1=>⟨⟨h1,c1⟩,fun x hx=> ?_⟩,fun c1=> ?_⟩
  ·have ax:=at0_some hx;refine ⟨⟨by omega,by omega⟩,⟨fun c2=>⟨⟨h1,c2⟩,fun y hy=> ?_⟩,fun c2=>⟨⟨trivial,trivial⟩, ?_⟩⟩, ?_⟩
   ·have ay:=at0_some hy;exact ⟨⟨by omega,by omega⟩,⟨trivial,trivial⟩,by omega⟩
   ·have ay:=at0_none (l:=m) (i:=i.toNat) (by omega);omega
   ·rintro ⟨d,⟨⟩⟩ hd;dsimp only at hd⊢;refine ⟨fun c3=>⟨⟨by omega,by omega⟩,⟨by omega,by omega⟩,⟨by omega,by omega⟩,trivial,few_step dl dm hI c1 hd (.inl ⟨c3,rfl,rfl⟩),by omega⟩,
     fun c3=>⟨⟨by omega,by omega⟩,⟨by omega,by omega⟩,trivial,few_step dl dm hI c1 hd (.inr ⟨c3,rfl,rfl⟩),by omega⟩⟩
  ·obtain ⟨e1,e2⟩:=few_end hl hm hv hI c1;exact ⟨trivial,e1,by omega,e2⟩
 ·rintro ⟨o,⟨⟩⟩ ⟨h1,h2,h3⟩;refine ⟨⟨h1,h2⟩, ?_⟩;rw [h3]
noncomputable def sp_fewer:FSpec Tryz.prog:=mkF 162 (.c (.l I) (.c (.l I) .z)) [.list .part I] (fun x=>(fun (l m:List Int)=>(Can l/\Can m/\val m<=val l/\l.length<=100000000,digs (val l-val m).toNat,())) x.1 x.2.1) fun ⟨l,m,_⟩ h=>Pure.of_cond (E:=env_fewer l m) (by kernel_rfl) (g_fewer_ok l m h) (specs_ok rfl _ [] rfl rfl) mixed Tryz.func162
def cmpV (a b:Int):Int:=if a<b then -1 else if b<a then 1 else 0
noncomputable def env_digits (l m:List Int):Env where
 P:=Tryz.prog
 ty:=tys0
 heads:=fun
  |6=>some {slots:=[(5, .int .i64)],boxes:=[],inv:=fun _ (x:Int×Unit)=> -1<=x.1/\x.1<l.length/\l.length=m.length/\l.drop (x.1+1).toNat=m.drop (x.1+1).toNat,measure:=fun _ (x:Int×Unit)=>(x.1+1).toNat}
  |_=>none
def g_digits_vc (l:List Int) (m:List Int):Prop:=
 ((!decide ((↑l.length:Int)=(↑m.length:Int)))=true->(decide ((↑l.length:Int)<(↑m.length:Int))=true->((-1:Int),())=(cmpV (val l) (val m),()))/\(decide ((↑l.length:Int)<(↑m.length:Int))=false->((1:Int),())=(cmpV (val l) (val m),())))/\((!decide ((↑l.length:Int)=(↑m.length:Int)))=false->(-9223372036854775808<=(↑l.length:Int)-(1:Int)/\(↑l.length:Int)-(1:Int)<=9223372036854775807)/\(True/\(-1:Int)<=(↑l.length:Int)-(1:Int)/\(↑l.length:Int)-(1:Int)<(↑l.length:Int)/\l.length=m.length/\List.drop ((↑l.length:Int)-(1:Int)+1).toNat l=List.drop ((↑l.length:Int)-(1:Int)+1).toNat m)/\∀(x:Int×Unit),(-1:Int)<=x.1/\x.1<(↑l.length:Int)/\l.length=m.length/\List.drop (x.1+1).toNat l=List.drop (x.1+1).toNat m->(decide (0<=x.1)=true->(0<=x.1/\x.1<(↑l.length:Int))/\∀(x_1:Int),l[x.1.toNat]? =some x_1->(0<=x.1/\x.1<(↑m.length:Int))/\∀(x_2:Int),m[x.1.toNat]? =some x_2->(decide (x_1<x_2)=true->((-1:Int),())=(cmpV (val l) (val m),()))/\(decide (x_1<x_2)=false->(0<=x.1/\x.1<(↑l.length:Int))/\∀(x_3:Int),l[x.1.toNat]? =some x_3->(0<=x.1/\x.1<(↑m.length:Int))/\∀(x_4:Int),m[x.1.toNat]? =some x_4->(decide (x_4<x_3)=true->((1:Int),())=(cmpV (val l) (val m),()))/\(decide (x_4<x_3)=false->(-9223372036854775808<=x.1-(1:Int)/\x.1-(1:Int)<=9223372036854775807)/\True/\((-1:Int)<=x.1-(1:Int)/\x.1-(1:Int)<(↑l.length:Int)/\l.length=m.length/\List.drop (x.1-(1:Int)+1).toNat l=List.drop (x.1-(1:Int)+1).toNat m)/\(x.1-(1:Int)+1).toNat<(x.1+1).toNat)))/\(decide (0<=x.1)=false->((0:Int),())=(cmpV (val l) (val m),())))
theorem g_digits_ok (l m:List Int) (h:Can l/\Can m/\l.length<=1000000000):g_digits_vc l m:=by
 obtain ⟨hl,hm,l1⟩:=h;unfold g_digits_vc cmpV;simp only [decide_eq_true_eq,decide_eq_false_iff_not,Bool.not_eq_true',Bool.not_eq_false'];refine ⟨fun c1=>⟨fun c2=> ?_,fun c2=> ?_⟩,fun c1=>⟨⟨by omega,by omega⟩,⟨trivial,by omega,by omega,by omega, ?_⟩, ?_⟩⟩
 ·rw [if_pos (can_len_lt hl hm (by omega))]
 ·have:=can_len_lt hm hl (by omega);rw [if_neg (by omega),if_pos this]
 ·rw [List.drop_of_length_le (by omega),List.drop_of_length_le (by omega)]
 ·rintro ⟨i,⟨⟩⟩ ⟨h1,h2,h3,h4⟩;simp only at*;have e1:(i+1).toNat=i.toNat+1∨i= -1:=by omega
  refine ⟨fun c2=>⟨⟨c2,h2⟩,fun x hx=>⟨⟨c2,by omega⟩,fun y hy=>⟨fun c3=> ?_,fun c3=>⟨⟨c2,h2⟩,fun x' hx'=>⟨⟨c2,by omega⟩,fun y' hy'=> ?_⟩⟩⟩⟩⟩,fun c2=> ?_⟩
  ·have e2:(i+1).toNat=i.toNat+1:=by omega
   rw [e2] at h4;rw [if_pos (cmp_law hl.dig hm.dig h3 hx hy h4 c3)]
  ·rw [hx] at hx';cases hx';rw [hy] at hy';cases hy';have e2:(i+1).toNat=i.toNat+1:=by omega
   rw [e2] at h4;refine ⟨fun c4=> ?_,fun c4=>⟨⟨by omega,by omega⟩,trivial,⟨by omega,by omega,h3, ?_⟩,by omega⟩⟩
   ·have:=cmp_law hm.dig hl.dig h3.symm hy hx h4.symm c4;rw [if_neg (by omega),if_pos this]
   ·have e3:(i-1+1).toNat=i.toNat:=by omega
    have exy:x=y:=by omega
    subst exy;rw [e3];obtain ⟨q1,q2⟩:=List.getElem?_eq_some_iff.1 hx;obtain ⟨q3,q4⟩:=List.getElem?_eq_some_iff.1 hy;rw [List.drop_eq_getElem_cons q1,List.drop_eq_getElem_cons q3,h4,q2,q4]
  ·have:i= -1:=by omega
   subst this;have:l=m:=by simpa using h4
   subst this;rw [if_neg (by omega),if_neg (by omega)]
noncomputable def sp_digits:FSpec Tryz.prog:=mkF 161 (.c (.l I) (.c (.l I) .z)) [.int .i64] (fun x=>(fun (l m:List Int)=>(Can l/\Can m/\l.length<=1000000000,cmpV (val l) (val m),())) x.1 x.2.1) fun ⟨l,m,_⟩ h=>Pure.of_cond (E:=env_digits l m) (by kernel_rfl) (g_digits_ok l m h) (specs_ok rfl [] [] rfl rfl) mixed Tryz.func161
noncomputable def env_bplus (s t:Bool) (l m:List Int):Env where
 P:=Tryz.prog
 ty:=tys0
 specs:=specsOf [sp_more,sp_digits,sp_fewer]
 frz:=fun|17=>true|29=>true|45=>true|_=>false
abbrev ann_bplus:Ann:={slots:=numP 0 [.bool, .list .part I],boxes:=[],inv:=fun _ _=>True}
def g_bplus_vc (s:Bool) (t:Bool) (l:List Int) (m:List Int):Prop:=
 ((s==t)=true->(Dig l/\Dig m/\l.length<=(100000000:Nat)/\m.length<=(100000000:Nat))/\True/\(s,digs (val l+val m).toNat,())=(decide (big s l+big t m<(0:Int)),digs (big s l+big t m).natAbs,()))/\((s==t)=false->(Can l/\Can m/\l.length<=(1000000000:Nat))/\(decide (0<=cmpV (val l) (val m))=true->(Can l/\Can m/\val m<=val l/\l.length<=(100000000:Nat))/\(s=true->True/\(decide ((0:Int)<(↑(digs (val l-val m).toNat).length:Int)),digs (val l-val m).toNat,())=(decide (big s l+big t m<(0:Int)),digs (big s l+big t m).natAbs,()))/\(s= !true->True/\(false,digs (val l-val m).toNat,())=(decide (big s l+big t m<(0:Int)),digs (big s l+big t m).natAbs,())))/\(decide (0<=cmpV (val l) (val m))=false->(Can m/\Can l/\val l<=val m/\m.length<=(100000000:Nat))/\True/\(t,digs (val m-val l).toNat,())=(decide (big s l+big t m<(0:Int)),digs (big s l+big t m).natAbs,())))
theorem g_bplus_ok (s t:Bool) (l m:List Int) (h:Big s l/\Big t m/\l.length<=1000000/\m.length<=1000000):g_bplus_vc s t l m:=by
 obtain ⟨⟨hl,hs⟩,⟨hm,ht⟩,l1,l2⟩:=h;have vl:=hl.nonneg;have vm:=hm.nonneg;have ps:s=true->0<val l:=fun e=>by
  have:val l≠0:=fun e0=>hs e (hl.nil_iff.2 e0);omega
 have pt:t=true->0<val m:=fun e=>by
  have:val m≠0:=fun e0=>ht e (hm.nil_iff.2 e0);omega
 have key: ∀{b:Bool} {n:Nat} {z:Int},(b=true↔z<0)->n=z.natAbs->(b,digs n,())=(decide (z<0),digs z.natAbs,()):=by
  rintro b n z hb rfl;cases b with
  |true=>rw [decide_eq_true (hb.1 rfl)]
  |false=>rw [decide_eq_false (fun h=>by have:=hb.2 h;cases this)]
 have len0: ∀n:Nat,((0:Int)<((digs n).length:Int))↔0<n:=fun n=>by
  by_cases h0:n=0
  ·subst h0;simp [digs_zero]
  ·rw [digs_pos h0];simp;omega
 unfold g_bplus_vc cmpV;refine ⟨fun c1=>⟨⟨hl.dig,hm.dig,by omega,by omega⟩,trivial, ?_⟩,fun c1=>⟨⟨hl,hm,by omega⟩,fun c2=>⟨⟨hl,hm, ?_,by omega⟩,fun c3=>⟨trivial, ?_⟩,fun c3=>⟨trivial, ?_⟩⟩,fun c2=>⟨⟨hm,hl, ?_,by omega⟩,trivial, ?_⟩⟩⟩
 ·have e:s=t:=by simpa using c1
  subst e;refine key ?_ ?_<;>cases s
  ·simp only [big,if_false,Bool.false_eq_true,false_iff];omega
  ·have:=ps rfl;simp only [big,if_true,true_iff];omega
  ·simp only [big,if_false,Bool.false_eq_true];omega
  ·simp only [big,if_true];omega
 ·rw [decide_eq_true_eq] at c2;by_cases h1:val l<val m
  ·rw [if_pos h1] at c2;omega
  ·omega
 ·subst c3;have e:t=false:=by
   cases t with
   |false=>rfl
   |true=>exact absurd c1 (by decide)
  subst e;have:=ps rfl;have hge:val m<=val l:=by
   rw [decide_eq_true_eq] at c2;by_cases h1:val l<val m
   ·rw [if_pos h1] at c2;omega
   ·omega
  refine key ?_ ?_
  ·rw [decide_eq_true_eq,len0];simp only [big,if_true,if_false,Bool.false_eq_true];omega
  ·simp only [big,if_true,if_false,Bool.false_eq_true];omega
 ·have e1:s=false:=by simpa using c3
  subst e1;have e:t=true:=by
   cases t with
   |true=>rfl
   |false=>exact absurd c1 (by decide)
  subst e;have hge:val m<=val l:=by
   rw [decide_eq_true_eq] at c2;by_cases h1:val l<val m
   ·rw [if_pos h1] at c2;omega
   ·omega
  refine key ?_ ?_
  ·simp only [big,if_true,if_false,Bool.false_eq_true,false_iff];omega
  ·simp only [big,if_true,if_false,Bool.false_eq_true];omega
 ·rw [decide_eq_false_iff_not] at c2;by_cases h1:val l<val m
  ·omega
  ·rw [if_neg h1] at c2;split at c2<;>omega
 ·have hlt:val l<val m:=by
   rw [decide_eq_false_iff_not] at c2;by_cases h1:val l<val m
   ·exact h1
   ·rw [if_neg h1] at c2;split at c2<;>omega
  cases s<;>cases t
  ·simp at c1
  ·refine key ?_ ?_
   ·simp only [big,if_true,if_false,Bool.false_eq_true,true_iff];omega
   ·simp only [big,if_true,if_false,Bool.false_eq_true];omega
  ·refine key ?_ ?_
   ·simp only [big,if_true,if_false,Bool.false_eq_true,false_iff];omega
   ·simp only [big,if_true,if_false,Bool.false_eq_true];omega
  ·simp at c1
noncomputable def sp_bplus:FSpec Tryz.prog:=mkG 114 (.c (.g (.c .b (.c (.p I) .z))) (.c (.g (.c .b (.c (.p I) .z))) .z)) (fun x=>(fun (s t:Bool) (l m:List Int)=>(Big s l/\Big t m/\l.length<=1000000/\m.length<=1000000,(.agg [.bool (decide (big s l+big t m<0)), .list .part I (digs (big s l+big t m).natAbs)]))) x.1.1 x.2.1.1 x.1.2.1 x.2.1.2.1) fun ⟨⟨s,l,_⟩,⟨t,m,_⟩,_⟩ h=>Pure.of_condG (E:=env_bplus s t l m) (sh:=[some 2]) (ann:=ann_bplus) (x:=(fun (s t:Bool) (l m:List Int)=>(decide (big s l+big t m<0),digs (big s l+big t m).natAbs,())) s t l m) (by kernel_rfl) (g_bplus_ok s t l m h) rfl (specs_ok rfl _ [] rfl rfl) mixed Tryz.func114
noncomputable def env_flip (s:Bool) (l:List Int):Env where
 P:=Tryz.prog
 ty:=tys0
abbrev ann_flip:Ann:={slots:=numP 0 [.bool, .list .part I],boxes:=[],inv:=fun _ _=>True}
def g_flip_vc (s:Bool) (l:List Int):Prop:=
 ((!s)=true->True/\(decide ((0:Int)<(↑l.length:Int)),l,())=(decide ((0:Int)-big s l<(0:Int)),digs ((0:Int)-big s l).natAbs,()))/\((!s)= !true->True/\(false,l,())=(decide ((0:Int)-big s l<(0:Int)),digs ((0:Int)-big s l).natAbs,()))
theorem g_flip_ok (s:Bool) (l:List Int) (h:Big s l):g_flip_vc s l:=by
 have hb:=h;obtain ⟨hl,hs⟩:=h;have vl:=hl.nonneg;have hn:=hl.nil_iff;have e:(0-big s l).natAbs=(big s l).natAbs:=by omega
 unfold g_flip_vc;rw [e,big_abs hb];refine ⟨fun c=>⟨trivial, ?_⟩,fun c=>⟨trivial, ?_⟩⟩
 ·have:s=false:=by simpa using c
  subst this;have:((0:Int)<l.length)↔(0-val l<0):=by
   have h1:((0:Int)<l.length)↔¬l=[]:=by rw [<-List.length_eq_zero_iff];omega
   rw [h1,hn];omega
  simp only [big,if_false,Bool.false_eq_true,this]
 ·have:s=true:=by simpa using c
  subst this;have: ¬(0-big true l<0):=by simp only [big,if_true];omega
  rw [decide_eq_false this]
noncomputable def sp_flip:FSpec Tryz.prog:=mkG 116 (.c (.g (.c .b (.c (.p I) .z))) .z) (fun x=>(fun (s:Bool) (l:List Int)=>(Big s l,(.agg [.bool (decide (0-big s l<0)), .list .part I (digs (0-big s l).natAbs)]))) x.1.1 x.1.2.1) fun ⟨⟨s,l,_⟩,_⟩ h=>Pure.of_condG (E:=env_flip s l) (sh:=[some 2]) (ann:=ann_flip) (x:=(fun (s:Bool) (l:List Int)=>(decide (0-big s l<0),digs (0-big s l).natAbs,())) s l) (by kernel_rfl) (g_flip_ok s l h) rfl (specs_ok rfl [] [] rfl rfl) mixed Tryz.func116
noncomputable def env_bminus (s t:Bool) (l m:List Int):Env where
 P:=Tryz.prog
 ty:=tys0
 specs:=specsOf [sp_flip,sp_bplus]
 frz:=fun|7=>true|8=>true|_=>false
abbrev ann_bminus:Ann:={slots:=numP 0 [.bool, .list .part I],boxes:=[],inv:=fun _ _=>True}
def g_bminus_vc (s:Bool) (t:Bool) (l:List Int) (m:List Int):Prop:=
 Big t m/\(Big s l/\Big (decide ((0:Int)-big t m<(0:Int))) (digs ((0:Int)-big t m).natAbs)/\l.length<=(1000000:Nat)/\(digs ((0:Int)-big t m).natAbs).length<=(1000000:Nat))/\True/\(decide (big s l+big (decide ((0:Int)-big t m<(0:Int))) (digs ((0:Int)-big t m).natAbs)<(0:Int)),digs (big s l+big (decide ((0:Int)-big t m<(0:Int))) (digs ((0:Int)-big t m).natAbs)).natAbs,())=(decide (big s l-big t m<(0:Int)),digs (big s l-big t m).natAbs,())
theorem g_bminus_ok (s t:Bool) (l m:List Int) (h:Big s l/\Big t m/\l.length<=1000000/\m.length<=1000000):g_bminus_vc s t l m:=by
 obtain ⟨h1,h2,l1,l2⟩:=h;have e:(0-big t m).natAbs=(big t m).natAbs:=by omega
 refine ⟨h2,⟨h1,Big_digs _,l1,by rw [e,big_abs h2];exact l2⟩,trivial, ?_⟩;rw [big_digs,show big s l+(0-big t m)=big s l-big t m by omega]
noncomputable def sp_bminus:FSpec Tryz.prog:=mkG 235 (.c (.g (.c .b (.c (.p I) .z))) (.c (.g (.c .b (.c (.p I) .z))) .z)) (fun x=>(fun (s t:Bool) (l m:List Int)=>(Big s l/\Big t m/\l.length<=1000000/\m.length<=1000000,(.agg [.bool (decide (big s l-big t m<0)), .list .part I (digs (big s l-big t m).natAbs)]))) x.1.1 x.2.1.1 x.1.2.1 x.2.1.2.1) fun ⟨⟨s,l,_⟩,⟨t,m,_⟩,_⟩ h=>Pure.of_condG (E:=env_bminus s t l m) (sh:=[some 2]) (ann:=ann_bminus) (x:=(fun (s t:Bool) (l m:List Int)=>(decide (big s l-big t m<0),digs (big s l-big t m).natAbs,())) s t l m) (by kernel_rfl) (g_bminus_ok s t l m h) rfl (specs_ok rfl _ [] rfl rfl) mixed Tryz.func235
noncomputable def env_bcmp (s t:Bool) (l m:List Int):Env where
 P:=Tryz.prog
 ty:=tys0
 specs:=specsOf [sp_bminus]
def g_bcmp_vc (s:Bool) (t:Bool) (l:List Int) (m:List Int):Prop:=
 (Big s l/\Big t m/\l.length<=(1000000:Nat)/\m.length<=(1000000:Nat))/\(decide (big s l-big t m<(0:Int))=true->((-1:Int),())=(cmpV (big s l) (big t m),()))/\(decide (big s l-big t m<(0:Int))=false->(decide ((0:Int)<(↑(digs (big s l-big t m).natAbs).length:Int))=true->((1:Int),())=(cmpV (big s l) (big t m),()))/\(decide ((0:Int)<(↑(digs (big s l-big t m).natAbs).length:Int))=false->((0:Int),())=(cmpV (big s l) (big t m),())))
theorem g_bcmp_ok (s t:Bool) (l m:List Int) (h:Big s l/\Big t m/\l.length<=1000000/\m.length<=1000000):g_bcmp_vc s t l m:=by
 have len0: ∀n:Nat,((0:Int)<((digs n).length:Int))↔0<n:=fun n=>by
  by_cases h0:n=0
  ·subst h0;simp [digs_zero]
  ·rw [digs_pos h0];simp;omega
 unfold g_bcmp_vc cmpV;simp only [decide_eq_true_eq,decide_eq_false_iff_not,len0];refine ⟨h,fun c=> ?_,fun c=>⟨fun c2=> ?_,fun c2=> ?_⟩⟩
 ·rw [if_pos (by omega)]
 ·rw [if_neg (by omega),if_pos (by omega)]
 ·rw [if_neg (by omega),if_neg (by omega)]
noncomputable def sp_bcmp:FSpec Tryz.prog:=mkF 208 (.c (.g (.c .b (.c (.p I) .z))) (.c (.g (.c .b (.c (.p I) .z))) .z)) [.int .i64] (fun x=>(fun (s t:Bool) (l m:List Int)=>(Big s l/\Big t m/\l.length<=1000000/\m.length<=1000000,cmpV (big s l) (big t m),())) x.1.1 x.2.1.1 x.1.2.1 x.2.1.2.1) fun ⟨⟨s,l,_⟩,⟨t,m,_⟩,_⟩ h=>Pure.of_cond (E:=env_bcmp s t l m) (by kernel_rfl) (g_bcmp_ok s t l m h) (specs_ok rfl _ [] rfl rfl) mixed Tryz.func208
def intB (z:Int):Int:=if -9223372036854775808<=z/\z<=9223372036854775807 then z else 0
def okB (z:Int):Bool:=decide (-9223372036854775808<=z)&&decide (z<=9223372036854775807)
def IntInv (s:Bool) (l:List Int) (i n:Int):Prop:= -1<=i/\i<l.length/\n=big s (l.drop (i+1).toNat)
noncomputable def env_bint (s:Bool) (l:List Int):Env where
 P:=Tryz.prog
 ty:=tys0
 specs:=specsOf [sp_of,sp_bcmp]
 frz:=fun|7=>true|8=>true|12=>true|13=>true|_=>false
 heads:=fun
  |5=>some {slots:=[(5, .int .i64),(4, .int .i64)],boxes:=[],keep:=[1],inv:=fun _ (x:Int×Int×Unit)=>IntInv s l x.1 x.2.1,measure:=fun _ (x:Int×Int×Unit)=>(x.1+1).toNat}
  |_=>none
def g_bint_vc (s:Bool) (l:List Int):Prop:=
 InI (-9223372036854775808:Int)/\(Big s l/\Big (decide ((-9223372036854775808:Int)<(0:Int))) (digs (-9223372036854775808:Int).natAbs)/\l.length<=(1000000:Nat)/\(digs (-9223372036854775808:Int).natAbs).length<=(1000000:Nat))/\(decide (cmpV (big s l) (big (decide ((-9223372036854775808:Int)<(0:Int))) (digs (-9223372036854775808:Int).natAbs))<(0:Int))=false->InI (9223372036854775807:Int)/\(Big s l/\Big (decide ((9223372036854775807:Int)<(0:Int))) (digs (Int.natAbs (9223372036854775807:Int)))/\l.length<=(1000000:Nat)/\(digs (Int.natAbs (9223372036854775807:Int))).length<=(1000000:Nat))/\(decide ((0:Int)<cmpV (big s l) (big (decide ((9223372036854775807:Int)<(0:Int))) (digs (Int.natAbs (9223372036854775807:Int)))))=true->((0:Int),false,())=(intB (big s l),okB (big s l),()))/\(decide ((0:Int)<cmpV (big s l) (big (decide ((9223372036854775807:Int)<(0:Int))) (digs (Int.natAbs (9223372036854775807:Int)))))=false->(-9223372036854775808<=(↑l.length:Int)-(1:Int)/\(↑l.length:Int)-(1:Int)<=9223372036854775807)/\((some (Obj.box [V.bool s,V.list LK.part I l])=some (Obj.box [V.bool s,V.list LK.part I l])/\True)/\IntInv s l ((↑l.length:Int)-(1:Int)) (0:Int))/\∀(x:Int×Int×Unit),IntInv s l x.1 x.2.1->(decide (0<=x.1)=true->(s=true->(-9223372036854775808<=x.2.1*(10:Int)/\x.2.1*(10:Int)<=9223372036854775807)/\(0<=x.1/\x.1<(↑l.length:Int))/\∀(x_1:Int),l[x.1.toNat]? =some x_1->(-9223372036854775808<=x.2.1*(10:Int)-x_1/\x.2.1*(10:Int)-x_1<=9223372036854775807)/\(-9223372036854775808<=x.1-(1:Int)/\x.1-(1:Int)<=9223372036854775807)/\(some (Obj.box [V.bool s,V.list LK.part I l])=some (Obj.box [V.bool s,V.list LK.part I l])/\True)/\IntInv s l (x.1-(1:Int)) (x.2.1*(10:Int)-x_1)/\(x.1-(1:Int)+1).toNat<(x.1+1).toNat)/\(s=false->(-9223372036854775808<=x.2.1*(10:Int)/\x.2.1*(10:Int)<=9223372036854775807)/\(0<=x.1/\x.1<(↑l.length:Int))/\∀(x_1:Int),l[x.1.toNat]? =some x_1->(-9223372036854775808<=x.2.1*(10:Int)+x_1/\x.2.1*(10:Int)+x_1<=9223372036854775807)/\(-9223372036854775808<=x.1-(1:Int)/\x.1-(1:Int)<=9223372036854775807)/\(some (Obj.box [V.bool s,V.list LK.part I l])=some (Obj.box [V.bool s,V.list LK.part I l])/\True)/\IntInv s l (x.1-(1:Int)) (x.2.1*(10:Int)+x_1)/\(x.1-(1:Int)+1).toNat<(x.1+1).toNat))/\(decide (0<=x.1)=false->(x.2.1,true,())=(intB (big s l),okB (big s l),()))))/\(decide (cmpV (big s l) (big (decide ((-9223372036854775808:Int)<(0:Int))) (digs (-9223372036854775808:Int).natAbs))<(0:Int))= !false->((0:Int),false,())=(intB (big s l),okB (big s l),()))
theorem g_bint_ok (s:Bool) (l:List Int) (h:Big s l/\l.length<=1000000):g_bint_vc s l:=by
 obtain ⟨hb,hl⟩:=h;have hd:=hb.1.dig;have vl:=hb.1.nonneg;have cl: ∀z:Int, -9223372036854775808<=z->z<=9223372036854775807->(digs z.natAbs).length<=1000000:=fun z h1 h2=>Nat.le_trans (digs_len (k:=19) (by omega)) (by omega);have bv: ∀(i:Nat),val (l.drop i)<=val l/\0<=val (l.drop i):=fun i=>by
  have h1:=val_split l i;have h2:=val_nonneg (dig_take hd i);have h3:0<=val (l.drop i):=val_nonneg fun d hd'=>hd d (List.mem_of_mem_drop hd');have h4:(1:Int)<=10 ^ (l.take i).length:=by
   have:(0:Int)<10 ^ (l.take i).length:=Int.pow_pos (by omega);omega
  have h5:1*val (l.drop i)<=10 ^ (l.take i).length*val (l.drop i):=Int.mul_le_mul_of_nonneg_right h4 h3;omega
 unfold g_bint_vc;simp only [decide_eq_true_eq,decide_eq_false_iff_not,Bool.not_false];rw [big_digs,big_digs];refine ⟨by constructor<;>decide,⟨hb,Big_digs _,by omega,cl _ (by omega) (by omega)⟩,fun c1=>⟨by constructor<;>decide,⟨hb,Big_digs _,by omega,cl _ (by omega) (by omega)⟩,fun c2=> ?_,fun c2=> ?_⟩,fun c1=> ?_⟩
 ·have: ¬(big s l<=9223372036854775807):=by
   unfold cmpV at c2;split at c2
   ·omega
   ·split at c2<;>omega
  simp only [intB,okB];rw [if_neg (by omega),decide_eq_false this,Bool.and_false]
 ·have r1: -9223372036854775808<=big s l:=by
   unfold cmpV at c1;split at c1
   ·omega
   ·omega
  have r2:big s l<=9223372036854775807:=by
   unfold cmpV at c2;split at c2
   ·omega
   ·split at c2<;>omega
  refine ⟨⟨by omega,by omega⟩,⟨⟨trivial,trivial⟩,by omega,by omega, ?_⟩, ?_⟩
  ·rw [List.drop_of_length_le (by omega)];simp [big,val]
  ·rintro ⟨i,n,⟨⟩⟩ ⟨h1,h2,h3⟩;dsimp only at h1 h2 h3⊢;have step: ∀d,l[i.toNat]? =some d->0<=i->val (l.drop i.toNat)=d+10*val (l.drop (i+1).toNat)/\0<=d:=fun d hx h0=>by
    obtain ⟨q1,q2⟩:=List.getElem?_eq_some_iff.1 hx;rw [List.drop_eq_getElem_cons q1,q2,show (i+1).toNat=i.toNat+1 by omega];exact ⟨rfl,(dig_get hd hx).1⟩
   have b0:=bv i.toNat;have b1:=bv (i+1).toNat;refine ⟨fun c3=>⟨fun c4=> ?_,fun c4=> ?_⟩,fun c3=> ?_⟩
   ·subst c4;simp only [big,if_true] at*;obtain ⟨d,hd0⟩: ∃d,l[i.toNat]? =some d:=⟨_,List.getElem?_eq_getElem (by omega)⟩
    obtain ⟨s1,s2⟩:=step d hd0 c3;refine ⟨⟨by omega,by omega⟩,⟨c3,h2⟩,fun x hx=> ?_⟩;rw [hd0] at hx;cases hx;refine ⟨⟨by omega,by omega⟩,⟨by omega,by omega⟩,⟨trivial,trivial⟩,⟨by omega,by omega, ?_⟩,by omega⟩;simp only [big,if_true];rw [show i-1+1=i by omega];omega
   ·subst c4;simp only [big,if_false,Bool.false_eq_true] at*;obtain ⟨d,hd0⟩: ∃d,l[i.toNat]? =some d:=⟨_,List.getElem?_eq_getElem (by omega)⟩
    obtain ⟨s1,s2⟩:=step d hd0 c3;refine ⟨⟨by omega,by omega⟩,⟨c3,h2⟩,fun x hx=> ?_⟩;rw [hd0] at hx;cases hx;refine ⟨⟨by omega,by omega⟩,⟨by omega,by omega⟩,⟨trivial,trivial⟩,⟨by omega,by omega, ?_⟩,by omega⟩;simp only [big,if_false,Bool.false_eq_true];rw [show i-1+1=i by omega];omega
   ·have:i= -1:=by omega
    subst this;have e:n=big s l:=by simpa using h3
    simp only [intB,okB];rw [if_pos ⟨r1,r2⟩,decide_eq_true r1,decide_eq_true r2,e];rfl
 ·have: ¬(-9223372036854775808<=big s l):=by
   unfold cmpV at c1;split at c1
   ·omega
   ·split at c1<;>omega
  simp only [intB,okB];rw [if_neg (by omega),decide_eq_false this,Bool.false_and]
noncomputable def sp_bint:FSpec Tryz.prog:=mkF 164 (.c (.g (.c .b (.c (.p I) .z))) .z) [.int .i64, .bool] (fun x=>(fun (s:Bool) (l:List Int)=>(Big s l/\l.length<=1000000,intB (big s l),okB (big s l),())) x.1.1 x.1.2.1) fun ⟨⟨s,l,_⟩,_⟩ h=>Pure.of_cond (E:=env_bint s l) (by kernel_rfl) (g_bint_ok s l h) (specs_ok rfl _ [] rfl rfl) mixed Tryz.func164
def faultB (z:Int):Int:=if okB z then 0 else 10
noncomputable def env_told (s:Bool) (l:List Int):Env where
 P:=Tryz.prog
 ty:=tys0
 specs:=specsOf [sp_bint]
def g_told_vc (s:Bool) (l:List Int):Prop:=
 (Big s l/\l.length<=(1000000:Nat))/\((!okB (big s l))=true->((0:Int),(10:Int),())=(intB (big s l),faultB (big s l),()))/\((!okB (big s l))=false->(intB (big s l),(0:Int),())=(intB (big s l),faultB (big s l),()))
theorem g_told_ok (s:Bool) (l:List Int) (h:Big s l/\l.length<=1000000):g_told_vc s l:=by
 unfold g_told_vc faultB;refine ⟨h,fun c=> ?_,fun c=> ?_⟩
 ·have c:okB (big s l)=false:=by simpa using c
  have:intB (big s l)=0:=by
   unfold okB at c;unfold intB;rw [Bool.and_eq_false_iff,decide_eq_false_iff_not,decide_eq_false_iff_not] at c;rw [if_neg (by omega)]
  rw [c,this];rfl
 ·have c:okB (big s l)=true:=by simpa using c
  rw [c];rfl
noncomputable def sp_told:FSpec Tryz.prog:=mkF 117 (.c (.g (.c .b (.c (.p I) .z))) .z) [.int .i64, .int .i64] (fun x=>(fun (s:Bool) (l:List Int)=>(Big s l/\l.length<=1000000,intB (big s l),faultB (big s l),())) x.1.1 x.1.2.1) fun ⟨⟨s,l,_⟩,_⟩ h=>Pure.of_cond (E:=env_told s l) (by kernel_rfl) (g_told_ok s l h) (specs_ok rfl _ [] rfl rfl) mixed Tryz.func117
end Go.Proofs.YtabicbgeoiilmaaGreatDoor
end
section
namespace Go.Proofs.YtabicbgeoiilmaaGreatDoor
open Go.Vm
abbrev M64:Int:=18446744073709551616
def InW (n:Int):Prop:=0<=n/\n<M64
theorem add64_ext (x y c:Int) (h:InW x/\InW y/\0<=c/\c<=1):Ext Tryz.prog 268 [.int .u64 x, .int .u64 y, .int .u64 c] (.tuple [.int .u64 ((x+y+c)%M64), .int .u64 ((x+y+c)/M64)]):=by
 intro X vs hr;obtain ⟨u1,r1,rfl,a1,hr⟩:=hr.cons_inv;obtain ⟨u2,r2,rfl,a2,hr⟩:=hr.cons_inv;obtain ⟨u3,r3,rfl,a3,hr⟩:=hr.cons_inv;rw [hr.nil_inv,a1.int_inv,a2.int_inv,a3.int_inv];obtain ⟨⟨h1,_⟩,⟨h2,_⟩,h3,h4⟩:=h;refine ⟨.tuple #[.int .u64 ((x+y+c)%M64), .int .u64 ((x+y+c)/M64)], ?_,RepL.tuple2 (.cons .int (.cons .int .nil))⟩;have:=run_callFunc_extern Tryz.func268 (by kernel_rfl) (by kernel_rfl) (by kernel_rfl) (e:=add64Entry) (by kernel_rfl) #[.int .u64 x, .int .u64 y, .int .u64 c] X.w;rw [run_add64 x y c h1 h2 h3 h4] at this;exact this
noncomputable def sp_add64:ESpec Tryz.prog where
 f:=268
 run:=fun args=>match args with
  |[.int .u64 x, .int .u64 y, .int .u64 c]=>some (InW x/\InW y/\0<=c/\c<=1, .tuple [.int .u64 ((x+y+c)%M64), .int .u64 ((x+y+c)/M64)])
  |_=>none
 ok:=fun args pre r h hp=>by
  split at h
  ·cases h;exact add64_ext _ _ _ hp
  ·cases h
theorem sub64_ext (x y b:Int) (h:InW x/\InW y/\0<=b/\b<=1):Ext Tryz.prog 269 [.int .u64 x, .int .u64 y, .int .u64 b] (.tuple [.int .u64 ((x-y-b)%M64), .int .u64 (if x<y+b then 1 else 0)]):=by
 intro X vs hr;obtain ⟨u1,r1,rfl,a1,hr⟩:=hr.cons_inv;obtain ⟨u2,r2,rfl,a2,hr⟩:=hr.cons_inv;obtain ⟨u3,r3,rfl,a3,hr⟩:=hr.cons_inv;rw [hr.nil_inv,a1.int_inv,a2.int_inv,a3.int_inv];obtain ⟨⟨h1,h5⟩,⟨h2,h6⟩,h3,h4⟩:=h;refine ⟨.tuple #[.int .u64 ((x-y-b)%M64), .int .u64 (if x<y+b then 1 else 0)], ?_,RepL.tuple2 (.cons .int (.cons .int .nil))⟩;have:=run_callFunc_extern Tryz.func269 (by kernel_rfl) (by kernel_rfl) (by kernel_rfl) (e:=sub64Entry) (by kernel_rfl) #[.int .u64 x, .int .u64 y, .int .u64 b] X.w;obtain ⟨x',rfl⟩:=Int.eq_ofNat_of_zero_le h1;obtain ⟨y',rfl⟩:=Int.eq_ofNat_of_zero_le h2;obtain ⟨b',rfl⟩:=Int.eq_ofNat_of_zero_le h3;have k:=run_sub64 (P:=Tryz.prog) x' y' b' (by omega) X.w;rw [show (#[.int .u64 (x':Int), .int .u64 (y':Int), .int .u64 (b':Int)]:Array Value)= #[.int .u64 x', .int .u64 y', .int .u64 b'] from rfl] at this;rw [k] at this;have e1:(((x'+18446744073709551616-y'-b')%18446744073709551616:Nat):Int)=((x':Int)-y'-b')%M64:=by
  simp only [M64] at*;omega
 have e2:(((if x'<y'+b' then 1 else 0:Nat)):Int)=if (x':Int)<(y':Int)+(b':Int) then 1 else 0:=by
  split<;>split<;>omega
 rw [e1,e2] at this;exact this
noncomputable def sp_sub64:ESpec Tryz.prog where
 f:=269
 run:=fun args=>match args with
  |[.int .u64 x, .int .u64 y, .int .u64 c]=>some (InW x/\InW y/\0<=c/\c<=1, .tuple [.int .u64 ((x-y-c)%M64), .int .u64 (if x<y+c then 1 else 0)])
  |_=>none
 ok:=fun args pre r h hp=>by
  split at h
  ·cases h;exact sub64_ext _ _ _ hp
  ·cases h
noncomputable def env_plus (a b c d:Int):Env where
 P:=Tryz.prog
 ty:=tys0
 ext:=extsOf [sp_add64]
abbrev ann_plus:Ann:={slots:=numP 0 [.int .u64, .int .u64],boxes:=[],inv:=fun _ _=>True}
def g_plus_vc (a:Int) (b:Int) (c:Int) (d:Int):Prop:=
 (InW b/\InW d/\0<=(0:Int)/\0<=(1:Int))/\(InW a/\InW c/\0<=(b+d+(0:Int))/M64/\(b+d+(0:Int))/M64<=(1:Int))/\True/\((a+c+(b+d+(0:Int))/M64)%M64,(b+d+(0:Int))%M64,())=((a+c+(b+d)/M64)%M64,(b+d)%M64,())
theorem g_plus_ok (a b c d:Int) (h:InW a/\InW b/\InW c/\InW d):g_plus_vc a b c d:=by
 obtain ⟨ha,hb,hc,hd⟩:=h;refine ⟨⟨hb,hd,by omega,by omega⟩,⟨ha,hc, ?_, ?_⟩,trivial, ?_⟩
 ·simp only [InW,M64] at*;omega
 ·simp only [InW,M64] at*;omega
 ·simp only [Int.add_zero]
set_option maxRecDepth 20000
noncomputable def sp_plus:FSpec Tryz.prog:=mkG 258 (.c (.g (.c (.i .u64) (.c (.i .u64) .z))) (.c (.g (.c (.i .u64) (.c (.i .u64) .z))) .z)) (fun x=>(fun (a b c d:Int)=>(InW a/\InW b/\InW c/\InW d,(.agg [.int .u64 ((a+c+(b+d)/M64)%M64), .int .u64 ((b+d)%M64)]))) x.1.1 x.1.2.1 x.2.1.1 x.2.1.2.1) fun ⟨⟨a,b,_⟩,⟨c,d,_⟩,_⟩ h=>Pure.of_condG (E:=env_plus a b c d) (sh:=[some 2]) (ann:=ann_plus) (x:=(fun (a b c d:Int)=>((a+c+(b+d)/M64)%M64,(b+d)%M64,())) a b c d) (by kernel_rfl) (g_plus_ok a b c d h) rfl (specs_okx rfl [] [] _ rfl rfl rfl) mixed Tryz.func258
def lessB (b d:Int):Int:=if b<d then 1 else 0
noncomputable def env_less (a b c d:Int):Env where
 P:=Tryz.prog
 ty:=tys0
 ext:=extsOf [sp_sub64]
abbrev ann_less:Ann:={slots:=numP 0 [.int .u64, .int .u64],boxes:=[],inv:=fun _ _=>True}
def g_less_vc (a:Int) (b:Int) (c:Int) (d:Int):Prop:=
 (InW b/\InW d/\0<=(0:Int)/\0<=(1:Int))/\(InW a/\InW c/\(0<=if b<d+(0:Int) then (1:Int) else (0:Int))/\(if b<d+(0:Int) then (1:Int) else (0:Int))<=(1:Int))/\True/\((a-c-if b<d+(0:Int) then (1:Int) else (0:Int))%M64,(b-d-(0:Int))%M64,())=((a-c-lessB b d)%M64,(b-d)%M64,())
theorem g_less_ok (a b c d:Int) (h:InW a/\InW b/\InW c/\InW d):g_less_vc a b c d:=by
 obtain ⟨ha,hb,hc,hd⟩:=h;refine ⟨⟨hb,hd,by omega,by omega⟩,⟨ha,hc, ?_, ?_⟩,trivial, ?_⟩
 ·split<;>omega
 ·split<;>omega
 ·simp only [Int.add_zero,Int.sub_zero,lessB]
noncomputable def sp_less:FSpec Tryz.prog:=mkG 260 (.c (.g (.c (.i .u64) (.c (.i .u64) .z))) (.c (.g (.c (.i .u64) (.c (.i .u64) .z))) .z)) (fun x=>(fun (a b c d:Int)=>(InW a/\InW b/\InW c/\InW d,(.agg [.int .u64 ((a-c-lessB b d)%M64), .int .u64 ((b-d)%M64)]))) x.1.1 x.1.2.1 x.2.1.1 x.2.1.2.1) fun ⟨⟨a,b,_⟩,⟨c,d,_⟩,_⟩ h=>Pure.of_condG (E:=env_less a b c d) (sh:=[some 2]) (ann:=ann_less) (x:=(fun (a b c d:Int)=>((a-c-lessB b d)%M64,(b-d)%M64,())) a b c d) (by kernel_rfl) (g_less_ok a b c d h) rfl (specs_okx rfl [] [] _ rfl rfl rfl) mixed Tryz.func260
def hiW (n:Int):Int:=if n<0 then 18446744073709551615 else 0
noncomputable def env_wide (n:Int):Env where
 P:=Tryz.prog
 ty:=tys0
 wrap:=fun|6=>true|9=>true|_=>false
abbrev ann_wide:Ann:={slots:=numP 0 [.int .u64, .int .u64],boxes:=[],inv:=fun _ _=>True}
def g_wide_vc (n:Int):Prop:=
 (decide (n<(0:Int))=true->True/\((18446744073709551615:Int),IntKind.u64.wrap n,())=(hiW n,n%M64,()))/\(decide (n<(0:Int))=false->True/\((0:Int),IntKind.u64.wrap n,())=(hiW n,n%M64,()))
theorem g_wide_ok (n:Int):g_wide_vc n:=by
 simp only [g_wide_vc,decide_eq_true_eq,decide_eq_false_iff_not];have e:IntKind.u64.wrap n=n%M64:=by rw [IntKind.wrap_u64]
 refine ⟨fun h=>⟨trivial, ?_⟩,fun h=>⟨trivial, ?_⟩⟩
 ·simp only [hiW,if_pos h,e]
 ·simp only [hiW,if_neg h,e]
noncomputable def sp_wide:FSpec Tryz.prog:=mkG 256 (.c .j .z) (fun x=>(fun (n:Int)=>(True,(.agg [.int .u64 (hiW n), .int .u64 (n%M64)]))) x.1) fun ⟨n,_⟩ _=>Pure.of_condG (E:=env_wide n) (sh:=[some 2]) (ann:=ann_wide) (x:=(fun (n:Int)=>(hiW n,n%M64,())) n) (by kernel_rfl) (g_wide_ok n) rfl (specs_ok rfl [] [] rfl rfl) mixed Tryz.func256
noncomputable def env_doPlus (a b c d:Int):Env where
 P:=Tryz.prog
 ty:=tys0
 specs:=specsOf [sp_plus]
abbrev ann_doPlus:Ann:={slots:=numP 0 [.int .u64, .int .u64],boxes:=[],inv:=fun _ _=>True}
def g_doPlus_vc (a:Int) (b:Int) (c:Int) (d:Int):Prop:=
 (InW c/\InW d/\InW a/\InW b)/\True/\((c+a+(d+b)/M64)%M64,(d+b)%M64,())=((c+a+(d+b)/M64)%M64,(d+b)%M64,())
theorem g_doPlus_ok (a b c d:Int) (h:InW a/\InW b/\InW c/\InW d):g_doPlus_vc a b c d:=by
 obtain ⟨ha,hb,hc,hd⟩:=h;exact ⟨⟨hc,hd,ha,hb⟩,trivial,rfl⟩
noncomputable def sp_doPlus:FSpec Tryz.prog:=mkG 257 (.c (.g (.c (.i .u64) (.c (.i .u64) .z))) (.c (.f (.c (.i .u64) (.c (.i .u64) .z))) .z)) (fun x=>(fun (a b c d:Int)=>(InW a/\InW b/\InW c/\InW d,(.agg [.int .u64 ((c+a+(d+b)/M64)%M64), .int .u64 ((d+b)%M64)]))) x.1.1 x.1.2.1 x.2.1.1 x.2.1.2.1) fun ⟨⟨a,b,_⟩,⟨c,d,_⟩,_⟩ h=>Pure.of_condG (E:=env_doPlus a b c d) (sh:=[some 2]) (ann:=ann_doPlus) (x:=(fun (a b c d:Int)=>((c+a+(d+b)/M64)%M64,(d+b)%M64,())) a b c d) (by kernel_rfl) (g_doPlus_ok a b c d h) rfl (specs_ok rfl _ [] rfl rfl) mixed Tryz.func257
def addW (s:Int×Int) (n:Int):Int×Int:=((s.1+hiW n+(s.2+n%M64)/M64)%M64,(s.2+n%M64)%M64)
def InvE (l:List Int) (a b i hi lo:Int):Prop:=0<=i/\i<=l.length/\(hi,lo)=(l.take i.toNat).foldl addW (a,b)/\InW hi/\InW lo
noncomputable def env_eachPlus (l:List Int) (a b:Int):Env where
 P:=Tryz.prog
 ty:=tys0
 specs:=specsOf [sp_wide,sp_doPlus]
 pins:=[9000]
 heads:=fun
  |1=>some {slots:=[(9, .int .i64)],boxes:=[(9000,[.int .u64, .int .u64])],inv:=fun _ (x:Int×Int×Int×Unit)=>InvE l a b x.1 x.2.1 x.2.2.1,measure:=fun _ (x:Int×Int×Int×Unit)=>(l.length-x.1).toNat}
  |_=>none
abbrev ann_eachPlus:Ann:={slots:=numP 0 [],boxes:=[(9000,[.int .u64, .int .u64])],inv:=fun _ _=>True}
noncomputable def g_eachPlus (l:List Int) (a b:Int):Prop:=vc (env_eachPlus l a b) (codeOf Tryz.f255) ⟨(start0 Tryz.f255 [.list .tmp I l, .fn (.func 257) [] [.ptr 9000 0], .ptr 9000 0]).s,[(9000, .box [.int .u64 a, .int .u64 b])]⟩ (exitG (env_eachPlus l a b).P Tryz.f255.results.toList [] (env_eachPlus l a b).pins ann_eachPlus ((l.foldl addW (a,b)).1,(l.foldl addW (a,b)).2,()))
def g_eachPlus_vc (l:List Int) (a:Int) (b:Int):Prop:=
 (True/\InvE l a b (0:Int) a b)/\∀(x:Int×Int×Int×Unit),InvE l a b x.1 x.2.1 x.2.2.1->(decide (x.1<(↑l.length:Int))=true->(0<=x.1/\x.1<(↑l.length:Int))/\∀(x_1:Int),l[x.1.toNat]? =some x_1->True/\(InW (hiW x_1)/\InW (x_1%M64)/\InW x.2.1/\InW x.2.2.1)/\(-9223372036854775808<=x.1+1/\x.1+1<=9223372036854775807)/\True/\InvE l a b (x.1+1) ((x.2.1+hiW x_1+(x.2.2.1+x_1%M64)/M64)%M64) ((x.2.2.1+x_1%M64)%M64)/\((↑l.length:Int)-(x.1+1)).toNat<((↑l.length:Int)-x.1).toNat)/\(decide (x.1<(↑l.length:Int))=false->True/\(x.2.1,x.2.2.1,())=((List.foldl addW (a,b) l).1,(List.foldl addW (a,b) l).2,()))
theorem hiW_w (n:Int):InW (hiW n):=by
 unfold hiW InW M64;split<;>omega
theorem mod_w (n:Int):InW (n%M64):=⟨Int.emod_nonneg _ (by decide),Int.emod_lt_of_pos _ (by decide)⟩
theorem invE_step {l:List Int} {a b i hi lo y:Int} (h:InvE l a b i hi lo) (hl:i<l.length) (hy:l[i.toNat]? =some y):InvE l a b (i+1) ((hi+hiW y+(lo+y%M64)/M64)%M64) ((lo+y%M64)%M64):=by
 obtain ⟨h1,h2,h3,_,_⟩:=h;refine ⟨by omega,by omega, ?_,mod_w _,mod_w _⟩;have e:(i+1).toNat=i.toNat+1:=by omega
 rw [e,List.take_add_one,hy,List.foldl_append,<-h3];rfl
theorem invE_end {l:List Int} {a b i hi lo:Int} (h:InvE l a b i hi lo) (hl: ¬i<l.length):(hi,lo)=l.foldl addW (a,b):=by
 obtain ⟨h1,h2,h3,_,_⟩:=h;rw [h3,List.take_of_length_le (by omega)]
theorem g_eachPlus_ok (l:List Int) (a b:Int) (h:l.length<=1000000000/\InW a/\InW b):g_eachPlus_vc l a b:=by
 obtain ⟨hl,ha,hb⟩:=h;refine ⟨⟨trivial,by omega,by omega,by simp,ha,hb⟩, ?_⟩;rintro ⟨i,hi,lo,⟨⟩⟩ hI;simp only [decide_eq_true_eq,decide_eq_false_iff_not] at*;have hb:=hI.1;refine ⟨fun hlt=>⟨⟨hb,hlt⟩,fun y hy=>⟨trivial,⟨hiW_w y,mod_w y,hI.2.2.2.1,hI.2.2.2.2⟩,by omega,trivial,invE_step hI hlt hy,by omega⟩⟩,fun hge=>⟨trivial, ?_⟩⟩;have:=invE_end hI hge;rw [<-this]
theorem g_eachPlus_eq (l:List Int) (a b:Int):g_eachPlus l a b=g_eachPlus_vc l a b:=by kernel_rfl
set_option maxRecDepth 20000 in
theorem eachPlus_upd (l:List Int) (a b:Int) (h:l.length<=1000000000/\InW a/\InW b):UpdC Tryz.prog 255 [.list .tmp I l, .fn (.func 257) [] [.ptr 9000 0], .ptr 9000 0] [(9000, .box [.int .u64 a, .int .u64 b])]
 (.tuple []) [(9000, .box [.int .u64 (l.foldl addW (a,b)).1, .int .u64 (l.foldl addW (a,b)).2])]:=
 UpdC.of_vcG (E:=env_eachPlus l a b) (sh:=[]) (ann:=ann_eachPlus) (x:=((l.foldl addW (a,b)).1,(l.foldl addW (a,b)).2,())) (fn:=Tryz.f255) (c:=codeOf Tryz.f255) (specs_ok (P:=Tryz.prog) rfl [sp_wide,sp_doPlus] [] rfl rfl) mixed Tryz.func255 rfl rfl rfl rfl (by
  have:=g_eachPlus_ok l a b h;rw [<-g_eachPlus_eq] at this;exact this)
def q_eachPlus (l:List Int) (a b:Int):Prop×V×Store:=(l.length<=1000000000/\InW a/\InW b, .tuple [],[(9000, .box [.int .u64 (l.foldl addW (a,b)).1, .int .u64 (l.foldl addW (a,b)).2])])
noncomputable def so_eachPlus:OSpec Tryz.prog where
 f:=255
 run:=fun args σ=>match args,σ with
  |[v0, .fn (.func 257) [] [.ptr 9000 0], .ptr 9000 0],[(9000, .box [.int .u64 a, .int .u64 b])]=>(match (asL I v0:Option (List Int)) with|some l=>some (q_eachPlus l a b)|none=>none)
  |_,_=>none
 ok:=fun args σ pre r σ' h hp=>by
  try dsimp only at h
  split at h
  ·rename_i v0 a b;cases h0:(asL I v0:Option (List Int)) with
   |none=>rw [h0] at h;cases h
   |some l=>
    rw [h0] at h;try dsimp only at h
    have h:=Option.some.inj h;unfold q_eachPlus at h;cases h;exact (eachPlus_upd l a b hp).weak (.cons (asL_weak h0) (.cons (Weak.refl _) (.cons (Weak.refl _) .nil)))
  ·cases h
noncomputable def env_doMinus (a b c d:Int):Env where
 P:=Tryz.prog
 ty:=tys0
 specs:=specsOf [sp_less]
abbrev ann_doMinus:Ann:={slots:=numP 0 [.int .u64, .int .u64],boxes:=[],inv:=fun _ _=>True}
def g_doMinus_vc (a:Int) (b:Int) (c:Int) (d:Int):Prop:=
 (InW c/\InW d/\InW a/\InW b)/\True/\((c-a-lessB d b)%M64,(d-b)%M64,())=((c-a-lessB d b)%M64,(d-b)%M64,())
theorem g_doMinus_ok (a b c d:Int) (h:InW a/\InW b/\InW c/\InW d):g_doMinus_vc a b c d:=by
 obtain ⟨ha,hb,hc,hd⟩:=h;exact ⟨⟨hc,hd,ha,hb⟩,trivial,rfl⟩
noncomputable def sp_doMinus:FSpec Tryz.prog:=mkG 259 (.c (.g (.c (.i .u64) (.c (.i .u64) .z))) (.c (.f (.c (.i .u64) (.c (.i .u64) .z))) .z)) (fun x=>(fun (a b c d:Int)=>(InW a/\InW b/\InW c/\InW d,(.agg [.int .u64 ((c-a-lessB d b)%M64), .int .u64 ((d-b)%M64)]))) x.1.1 x.1.2.1 x.2.1.1 x.2.1.2.1) fun ⟨⟨a,b,_⟩,⟨c,d,_⟩,_⟩ h=>Pure.of_condG (E:=env_doMinus a b c d) (sh:=[some 2]) (ann:=ann_doMinus) (x:=(fun (a b c d:Int)=>((c-a-lessB d b)%M64,(d-b)%M64,())) a b c d) (by kernel_rfl) (g_doMinus_ok a b c d h) rfl (specs_ok rfl _ [] rfl rfl) mixed Tryz.func259
def subW (s:Int×Int) (n:Int):Int×Int:=((s.1-hiW n-lessB s.2 (n%M64))%M64,(s.2-n%M64)%M64)
def InvM (l:List Int) (a b i hi lo:Int):Prop:=0<=i/\i<=l.length/\(hi,lo)=(l.take i.toNat).foldl subW (a,b)/\InW hi/\InW lo
noncomputable def env_eachMinus (l:List Int) (a b:Int):Env where
 P:=Tryz.prog
 ty:=tys0
 specs:=specsOf [sp_wide,sp_doMinus]
 pins:=[9000]
 heads:=fun
  |1=>some {slots:=[(9, .int .i64)],boxes:=[(9000,[.int .u64, .int .u64])],inv:=fun _ (x:Int×Int×Int×Unit)=>InvM l a b x.1 x.2.1 x.2.2.1,measure:=fun _ (x:Int×Int×Int×Unit)=>(l.length-x.1).toNat}
  |_=>none
abbrev ann_eachMinus:Ann:={slots:=numP 0 [],boxes:=[(9000,[.int .u64, .int .u64])],inv:=fun _ _=>True}
noncomputable def g_eachMinus (l:List Int) (a b:Int):Prop:=vc (env_eachMinus l a b) (codeOf Tryz.f255) ⟨(start0 Tryz.f255 [.list .tmp I l, .fn (.func 259) [] [.ptr 9000 0], .ptr 9000 0]).s,[(9000, .box [.int .u64 a, .int .u64 b])]⟩ (exitG (env_eachMinus l a b).P Tryz.f255.results.toList [] (env_eachMinus l a b).pins ann_eachMinus ((l.foldl subW (a,b)).1,(l.foldl subW (a,b)).2,()))
def g_eachMinus_vc (l:List Int) (a:Int) (b:Int):Prop:=
 (True/\InvM l a b (0:Int) a b)/\∀(x:Int×Int×Int×Unit),InvM l a b x.1 x.2.1 x.2.2.1->(decide (x.1<(↑l.length:Int))=true->(0<=x.1/\x.1<(↑l.length:Int))/\∀(x_1:Int),l[x.1.toNat]? =some x_1->True/\(InW (hiW x_1)/\InW (x_1%M64)/\InW x.2.1/\InW x.2.2.1)/\(-9223372036854775808<=x.1+1/\x.1+1<=9223372036854775807)/\True/\InvM l a b (x.1+1) ((x.2.1-hiW x_1-lessB x.2.2.1 (x_1%M64))%M64) ((x.2.2.1-x_1%M64)%M64)/\((↑l.length:Int)-(x.1+1)).toNat<((↑l.length:Int)-x.1).toNat)/\(decide (x.1<(↑l.length:Int))=false->True/\(x.2.1,x.2.2.1,())=((List.foldl subW (a,b) l).1,(List.foldl subW (a,b) l).2,()))
theorem invM_step {l:List Int} {a b i hi lo y:Int} (h:InvM l a b i hi lo) (hl:i<l.length) (hy:l[i.toNat]? =some y):InvM l a b (i+1) ((hi-hiW y-lessB lo (y%M64))%M64) ((lo-y%M64)%M64):=by
 obtain ⟨h1,h2,h3,_,_⟩:=h;refine ⟨by omega,by omega, ?_,mod_w _,mod_w _⟩;have e:(i+1).toNat=i.toNat+1:=by omega
 rw [e,List.take_add_one,hy,List.foldl_append,<-h3];rfl
theorem invM_end {l:List Int} {a b i hi lo:Int} (h:InvM l a b i hi lo) (hl: ¬i<l.length):(hi,lo)=l.foldl subW (a,b):=by
 obtain ⟨h1,h2,h3,_,_⟩:=h;rw [h3,List.take_of_length_le (by omega)]
theorem g_eachMinus_ok (l:List Int) (a b:Int) (h:l.length<=1000000000/\InW a/\InW b):g_eachMinus_vc l a b:=by
 obtain ⟨hl,ha,hb⟩:=h;refine ⟨⟨trivial,by omega,by omega,by simp,ha,hb⟩, ?_⟩;rintro ⟨i,hi,lo,⟨⟩⟩ hI;simp only [decide_eq_true_eq,decide_eq_false_iff_not] at*;have hb:=hI.1;refine ⟨fun hlt=>⟨⟨hb,hlt⟩,fun y hy=>⟨trivial,⟨hiW_w y,mod_w y,hI.2.2.2.1,hI.2.2.2.2⟩,by omega,trivial,invM_step hI hlt hy,by omega⟩⟩,fun hge=>⟨trivial, ?_⟩⟩;have:=invM_end hI hge;rw [<-this]
theorem g_eachMinus_eq (l:List Int) (a b:Int):g_eachMinus l a b=g_eachMinus_vc l a b:=by kernel_rfl
set_option maxRecDepth 20000 in
theorem eachMinus_upd (l:List Int) (a b:Int) (h:l.length<=1000000000/\InW a/\InW b):UpdC Tryz.prog 255 [.list .tmp I l, .fn (.func 259) [] [.ptr 9000 0], .ptr 9000 0] [(9000, .box [.int .u64 a, .int .u64 b])]
 (.tuple []) [(9000, .box [.int .u64 (l.foldl subW (a,b)).1, .int .u64 (l.foldl subW (a,b)).2])]:=
 UpdC.of_vcG (E:=env_eachMinus l a b) (sh:=[]) (ann:=ann_eachMinus) (x:=((l.foldl subW (a,b)).1,(l.foldl subW (a,b)).2,())) (fn:=Tryz.f255) (c:=codeOf Tryz.f255) (specs_ok (P:=Tryz.prog) rfl [sp_wide,sp_doMinus] [] rfl rfl) mixed Tryz.func255 rfl rfl rfl rfl (by
  have:=g_eachMinus_ok l a b h;rw [<-g_eachMinus_eq] at this;exact this)
def q_eachMinus (l:List Int) (a b:Int):Prop×V×Store:=(l.length<=1000000000/\InW a/\InW b, .tuple [],[(9000, .box [.int .u64 (l.foldl subW (a,b)).1, .int .u64 (l.foldl subW (a,b)).2])])
noncomputable def so_eachMinus:OSpec Tryz.prog where
 f:=255
 run:=fun args σ=>match args,σ with
  |[v0, .fn (.func 259) [] [.ptr 9000 0], .ptr 9000 0],[(9000, .box [.int .u64 a, .int .u64 b])]=>(match (asL I v0:Option (List Int)) with|some l=>some (q_eachMinus l a b)|none=>none)
  |_,_=>none
 ok:=fun args σ pre r σ' h hp=>by
  try dsimp only at h
  split at h
  ·rename_i v0 a b;cases h0:(asL I v0:Option (List Int)) with
   |none=>rw [h0] at h;cases h
   |some l=>
    rw [h0] at h;try dsimp only at h
    have h:=Option.some.inj h;unfold q_eachMinus at h;cases h;exact (eachMinus_upd l a b hp).weak (.cons (asL_weak h0) (.cons (Weak.refl _) (.cons (Weak.refl _) .nil)))
  ·cases h
def intF (a b:Int):Int×Int:=if hiW (IntKind.i64.wrap b)=a/\IntKind.i64.wrap b%M64=b then (IntKind.i64.wrap b,0) else (0,10)
noncomputable def env_pint (a b:Int):Env where
 P:=Tryz.prog
 ty:=tys0
 specs:=specsOf [sp_wide]
 wrap:=fun|7=>true|_=>false
def g_pint_vc (a:Int) (b:Int):Prop:=
 True/\((!(decide (hiW (IntKind.i64.wrap b)=a)&&(decide (IntKind.i64.wrap b%M64=b)&&true)))=true->((0:Int),(10:Int),())=((intF a b).1,(intF a b).2,()))/\((!(decide (hiW (IntKind.i64.wrap b)=a)&&(decide (IntKind.i64.wrap b%M64=b)&&true)))=false->(IntKind.i64.wrap b,(0:Int),())=((intF a b).1,(intF a b).2,()))
theorem g_pint_ok (a b:Int):g_pint_vc a b:=by
 simp only [g_pint_vc,Bool.and_true,Bool.not_eq_true',Bool.not_eq_false',Bool.and_eq_true,Bool.and_eq_false_iff,decide_eq_true_eq,decide_eq_false_iff_not,true_and];refine ⟨fun h=> ?_,fun h=> ?_⟩
 ·have: ¬(hiW (IntKind.i64.wrap b)=a/\IntKind.i64.wrap b%M64=b):=fun hh=>by
   rcases h with h|h
   ·exact h hh.1
   ·exact h hh.2
  simp only [intF,if_neg this]
 ·simp only [intF,if_pos h]
noncomputable def sp_pint:FSpec Tryz.prog:=mkF 261 (.c (.g (.c (.i .u64) (.c (.i .u64) .z))) .z) [.int .i64, .int .i64] (fun x=>(fun (a b:Int)=>(True,(intF a b).1,(intF a b).2,())) x.1.1 x.1.2.1) fun ⟨⟨a,b,_⟩,_⟩ _=>Pure.of_cond (E:=env_pint a b) (by kernel_rfl) (g_pint_ok a b) (specs_ok rfl _ [] rfl rfl) mixed Tryz.func261
end Go.Proofs.YtabicbgeoiilmaaGreatDoor
end
section
namespace Go.Proofs.YtabicbgeoiilmaaGreatDoor
open Go.Vm
noncomputable def so_each:OSpec Tryz.prog where
 f:=255
 run:=fun args σ=>match so_eachPlus.run args σ with
  |some x=>some x
  |none=>so_eachMinus.run args σ
 ok:=fun args σ pre r σ' h hp=>by
  split at h
  ·rename_i x hx;cases h;exact so_eachPlus.ok args σ pre r σ' hx hp
  ·exact so_eachMinus.ok args σ pre r σ' h hp
def sumW (l m:List Int):Int×Int:=m.foldl subW (l.foldl addW (0,0))
def netF (l m:List Int):Int×Int:=intF (sumW l m).1 (sumW l m).2
noncomputable def env_net (l m:List Int):Env where
 P:=Tryz.prog
 ty:=tys0
 specs:=specsOf [sp_pint]
 upd:=updsOf [so_each.upd]
def g_net_vc (l:List Int) (m:List Int):Prop:=
 (l.length<=(1000000000:Nat)/\InW (0:Int)/\InW (0:Int))/\(m.length<=(1000000000:Nat)/\InW (List.foldl addW ((0:Int),(0:Int)) l).1/\InW (List.foldl addW ((0:Int),(0:Int)) l).2)/\True/\((intF (List.foldl subW ((List.foldl addW ((0:Int),(0:Int)) l).1,(List.foldl addW ((0:Int),(0:Int)) l).2) m).1 (List.foldl subW ((List.foldl addW ((0:Int),(0:Int)) l).1,(List.foldl addW ((0:Int),(0:Int)) l).2) m).2).1,(intF (List.foldl subW ((List.foldl addW ((0:Int),(0:Int)) l).1,(List.foldl addW ((0:Int),(0:Int)) l).2) m).1 (List.foldl subW ((List.foldl addW ((0:Int),(0:Int)) l).1,(List.foldl addW ((0:Int),(0:Int)) l).2) m).2).2,())=((netF l m).1,(netF l m).2,())
theorem addW_w {l:List Int}: ∀{s:Int×Int},InW s.1/\InW s.2->InW (l.foldl addW s).1/\InW (l.foldl addW s).2:=by
 induction l with
 |nil=>exact fun h=>h
 |cons a r ih=>exact fun _=>ih ⟨mod_w _,mod_w _⟩
theorem g_net_ok (l m:List Int) (h:l.length<=1000000000/\m.length<=1000000000):g_net_vc l m:=by
 have h0:InW 0:=⟨by decide,by decide⟩
 have h1:=addW_w (l:=l) (s:=(0,0)) ⟨h0,h0⟩;exact ⟨⟨h.1,h0,h0⟩,⟨h.2,h1.1,h1.2⟩,trivial,rfl⟩
set_option maxRecDepth 20000
noncomputable def sp_net:FSpec Tryz.prog:=mkF 241 (.c (.l I) (.c (.l I) .z)) [.int .i64, .int .i64] (fun x=>(fun (l m:List Int)=>(l.length<=1000000000/\m.length<=1000000000,(netF l m).1,(netF l m).2,())) x.1 x.2.1) fun ⟨l,m,_⟩ h=>Pure.of_cond (E:=env_net l m) (by kernel_rfl) (g_net_ok l m h) (specs_ok rfl _ _ rfl rfl) mixed Tryz.func241
end Go.Proofs.YtabicbgeoiilmaaGreatDoor
end
