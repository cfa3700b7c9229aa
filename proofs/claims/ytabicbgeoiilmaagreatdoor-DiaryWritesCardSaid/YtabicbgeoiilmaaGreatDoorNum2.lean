/-
  num.Net, num.Sum.
-/
import Derived.Test.YtabicbgeoiilmaaGreatDoorSeat
import Derived.Shelf.Spec.BitsCarry
set_option linter.unusedVariables false
section
namespace Go.Proofs.YtabicbgeoiilmaaGreatDoor
open Go.Vm
def digs (n:Nat):List Int:=if h:n=0 then [] else ((n%10:Nat):Int)::digs (n/10)
termination_by n
decreasing_by omega
theorem digs_zero:digs 0=[]:=by unfold digs;simp
theorem digs_pos {n:Nat} (h:n≠0):digs n=((n%10:Nat):Int)::digs (n/10):=by
 rw [digs,dif_neg h]
def InI (n:Int):Prop:= -9223372036854775808<=n/\n<=9223372036854775807
def InvOf (n x:Int) (D:List Int):Prop:=D++digs x.natAbs=digs n.natAbs/\(0<=n->0<=x)/\(n<0->x<=0)/\x.natAbs*10 ^ D.length<=n.natAbs
theorem invOf_0 (n:Int):InvOf n n []:=⟨by simp,fun h=>h,fun h=>by omega,by simp⟩
theorem invOf_len {n x:Int} {D:List Int} (h:InvOf n x D) (hx: ¬x=0) (hn:InI n):D.length<=19:=by
 obtain ⟨_,_,_,h4⟩:=h;by_cases hl:D.length<=19
 ·exact hl
 ·exfalso;have h1:10 ^ 20<=10 ^ D.length:=Nat.pow_le_pow_right (by omega) (by omega);have h2:1*10 ^ D.length<=x.natAbs*10 ^ D.length:=Nat.mul_le_mul_right _ (by omega);obtain ⟨h5,h6⟩:=hn;omega
theorem invOf_step {n x d:Int} {D:List Int} (h:InvOf n x D) (hx: ¬x=0) (hd:d=(x.natAbs%10:Nat)):InvOf n (x.tdiv 10) (D++[d]):=by
 obtain ⟨h1,h2,h3,h4⟩:=h;have e:(x.tdiv 10).natAbs=x.natAbs/10:=by rw [Int.natAbs_tdiv];rfl
 refine ⟨?_,fun h=>Int.tdiv_nonneg (h2 h) (by omega),fun h=> ?_, ?_⟩
 ·rw [e,List.append_assoc,hd,<-h1,digs_pos (n:=x.natAbs) (by omega)];rfl
 ·have:=h3 h;have h5:(-x).tdiv 10= -(x.tdiv 10):=Int.neg_tdiv ..;have h6:0<=(-x).tdiv 10:=Int.tdiv_nonneg (by omega) (by omega);omega
 ·rw [e];simp only [List.length_append,List.length_singleton,Nat.pow_succ];have:x.natAbs/10*(10 ^ D.length*10)<=x.natAbs*10 ^ D.length:=by
   rw [Nat.mul_comm (10 ^ D.length) 10,<-Nat.mul_assoc];exact Nat.mul_le_mul_right _ (Nat.div_mul_le_self _ _)
  omega
theorem invOf_end {n x:Int} {D:List Int} (h:InvOf n x D) (hx:x=0):D=digs n.natAbs:=by
 obtain ⟨h1,_⟩:=h;subst hx;simpa [digs_zero] using h1
theorem tmod10 (x:Int):(x.tmod 10).natAbs=x.natAbs%10:=by rw [Int.natAbs_tmod];rfl
theorem tdiv10 (x:Int):(x.tdiv 10).natAbs=x.natAbs/10:=by rw [Int.natAbs_tdiv];rfl
noncomputable def env_of (n:Int):Env where
 P:=Tryz.prog
 ty:=tys0
 heads:=fun
  |3=>some {slots:=[(4, .int .i64)],boxes:=[(3,[.bool, .slc 5000 I])],keep:=[2],inv:=fun _ (x:Int×Bool×List Int×Unit)=>x.2.1=decide (n<0)/\InvOf n x.1 x.2.2.1,measure:=fun _ (x:Int×Bool×List Int×Unit)=>x.1.natAbs}
  |_=>none
abbrev ann_of:Ann:={slots:=numP 0 [.bool, .slc 5000 I],boxes:=[],inv:=fun _ _=>True}
def g_of_vc (n:Int):Prop:=
 ((some (Obj.box [V.kb false,V.nils])=some (Obj.box [V.kb false,V.nils])/\True)/\decide (n<(0:Int))=decide (n<(0:Int))/\InvOf n n [])/\∀(x:Int×Bool×List Int×Unit),x.2.1=decide (n<(0:Int))/\InvOf n x.1 x.2.2.1->((!decide (x.1=(0:Int)))=true->(10:Int)≠(0:Int)/\(decide (x.1.tmod (10:Int)<(0:Int))=true->(-9223372036854775808<=(0:Int)-x.1.tmod (10:Int)/\(0:Int)-x.1.tmod (10:Int)<=9223372036854775807)/\((x.2.2.1.length+(1:Nat))*(8:Nat)<=(140737488355328:Nat)/\x.2.2.1.length+(1:Nat)<=(4611686018427387904:Nat))/\(10:Int)≠(0:Int)/\(-9223372036854775808<=x.1.tdiv (10:Int)/\x.1.tdiv (10:Int)<=9223372036854775807)/\(some (Obj.box [V.kb false,V.nils])=some (Obj.box [V.kb false,V.nils])/\True)/\(x.2.1=decide (n<(0:Int))/\InvOf n (x.1.tdiv (10:Int)) (x.2.2.1++[(0:Int)-x.1.tmod (10:Int)]))/\(x.1.tdiv (10:Int)).natAbs<x.1.natAbs)/\(decide (x.1.tmod (10:Int)<(0:Int))=false->((x.2.2.1.length+(1:Nat))*(8:Nat)<=(140737488355328:Nat)/\x.2.2.1.length+(1:Nat)<=(4611686018427387904:Nat))/\(10:Int)≠(0:Int)/\(-9223372036854775808<=x.1.tdiv (10:Int)/\x.1.tdiv (10:Int)<=9223372036854775807)/\(some (Obj.box [V.kb false,V.nils])=some (Obj.box [V.kb false,V.nils])/\True)/\(x.2.1=decide (n<(0:Int))/\InvOf n (x.1.tdiv (10:Int)) (x.2.2.1++[x.1.tmod (10:Int)]))/\(x.1.tdiv (10:Int)).natAbs<x.1.natAbs))/\((!decide (x.1=(0:Int)))=false->True/\(x.2.1,x.2.2.1,())=(decide (n<(0:Int)),digs n.natAbs,()))
theorem g_of_ok (n:Int) (h:InI n):g_of_vc n:=by
 refine ⟨⟨⟨rfl,trivial⟩,rfl,invOf_0 n⟩, ?_⟩;rintro ⟨x,b,D,⟨⟩⟩ ⟨rfl,hI⟩;simp only [decide_eq_true_eq,decide_eq_false_iff_not,Bool.not_eq_true',Bool.not_eq_false'] at*;have h10:=tmod10 x;have hd10:=tdiv10 x;obtain ⟨l1,l2⟩:=h;have hb:x.natAbs<=n.natAbs:=by
  have h4:=hI.2.2.2;have:x.natAbs*1<=x.natAbs*10 ^ D.length:=Nat.mul_le_mul_left _ (Nat.pow_pos (by omega));omega
 refine ⟨fun hx=>⟨by omega,fun hm=> ?_,fun hm=> ?_⟩,fun hx=>⟨trivial, ?_⟩⟩
 ·have hl:=invOf_len hI hx ⟨l1,l2⟩;exact ⟨by omega,by omega,by omega,by omega,⟨trivial,trivial⟩,⟨trivial,invOf_step hI hx (by omega)⟩,by omega⟩
 ·have hl:=invOf_len hI hx ⟨l1,l2⟩;exact ⟨by omega,by omega,by omega,⟨trivial,trivial⟩,⟨trivial,invOf_step hI hx (by omega)⟩,by omega⟩
 ·rw [invOf_end hI hx]
set_option maxRecDepth 20000
noncomputable def sp_of:FSpec Tryz.prog:=mkG 50 (.c .j .z) (fun x=>(fun (n:Int)=>(InI n,(.agg [.bool (decide (n<0)), .olist I (digs n.natAbs)]))) x.1) fun ⟨n,_⟩ h=>Pure.of_condG (E:=env_of n) (sh:=[some 2]) (ann:=ann_of) (x:=(fun (n:Int)=>(decide (n<0),digs n.natAbs,())) n) (by kernel_rfl) (g_of_ok n h) rfl (specs_ok rfl [] [] rfl rfl) mixed Tryz.func50
end Go.Proofs.YtabicbgeoiilmaaGreatDoor
end
section
namespace Go.Proofs.YtabicbgeoiilmaaGreatDoor
open Go.Vm
def val:List Int->Int
 |[]=>0
 |d::r=>d+10*val r
def Dig (l:List Int):Prop:= ∀d∈l,0<=d/\d<=9
def Can (l:List Int):Prop:=l=digs (val l).toNat
theorem dig_nil:Dig []:=fun d h=>by simp at h
theorem dig_cons {d:Int} {l:List Int}:Dig (d::l)↔(0<=d/\d<=9)/\Dig l:=by simp [Dig]
theorem dig_get {l:List Int} (h:Dig l) {i:Nat} {d:Int} (hd:l[i]? =some d):0<=d/\d<=9:=h d (List.mem_of_getElem? hd)
theorem val_nonneg: ∀{l:List Int},Dig l->0<=val l
 |[],_=>by simp [val]
 |d::r,h=>by
  obtain ⟨h1,h2⟩:=dig_cons.1 h;have:=val_nonneg h2;simp only [val];omega
theorem val_digs (n:Nat):val (digs n)=n:=by
 induction n using Nat.strongRecOn with
 |ind n ih=>
  by_cases h:n=0
  ·subst h;simp [digs_zero,val]
  ·rw [digs_pos h];simp only [val,ih (n/10) (by omega)];omega
theorem digs_dig (n:Nat):Dig (digs n):=by
 induction n using Nat.strongRecOn with
 |ind n ih=>
  by_cases h:n=0
  ·subst h;rw [digs_zero];exact dig_nil
  ·rw [digs_pos h,dig_cons];exact ⟨by omega,ih (n/10) (by omega)⟩
theorem can_digs (n:Nat):Can (digs n):=by unfold Can;rw [val_digs];rfl
theorem Can.dig {l:List Int} (h:Can l):Dig l:=by rw [h];exact digs_dig _
theorem digs_nil {n:Nat}:digs n=[]↔n=0:=by
 constructor
 ·intro h;by_cases h0:n=0
  ·exact h0
  ·rw [digs_pos h0] at h;cases h
 ·rintro rfl;exact digs_zero
theorem Can.nonneg {l:List Int} (h:Can l):0<=val l:=val_nonneg h.dig
theorem Can.nil_iff {l:List Int} (h:Can l):l=[]↔val l=0:=by
 have:=h.nonneg;rw [h,digs_nil,val_digs];omega
theorem can_low {l:List Int} (h:Can l) (hl:l≠[]):10 ^ (l.length-1)<=val l:=by
 have hc: ∀(n:Nat),n≠0->(10:Int) ^ ((digs n).length-1)<=n:=by
  intro n;induction n using Nat.strongRecOn with
  |ind n ih=>
   intro hn;rw [digs_pos hn];simp only [List.length_cons,Nat.add_sub_cancel];by_cases h0:n/10=0
   ·rw [h0,digs_zero];simp;omega
   ·have:=ih (n/10) (by omega) h0;have hp:(digs (n/10)).length=((digs (n/10)).length-1)+1:=by
     have:digs (n/10)≠[]:=fun e=>h0 (digs_nil.1 e);have:0<(digs (n/10)).length:=List.length_pos_iff.2 this;omega
    rw [hp,Int.pow_succ];omega
 have hv:=h.nonneg;have hne:(val l).toNat≠0:=fun e=>hl (h.nil_iff.2 (by omega));have:=hc _ hne;rw [<-h] at this;omega
theorem pow_le {a b:Nat} (h:a<=b):(10:Int) ^ a<=10 ^ b:=by
 obtain ⟨c,rfl⟩:=Nat.exists_eq_add_of_le h;rw [Int.pow_add];have h1:(1:Int)<=10 ^ c:=by
  have:0<(10:Int) ^ c:=Int.pow_pos (by omega);omega
 have h2:(0:Int)<=10 ^ a:=Int.le_of_lt (Int.pow_pos (by omega));calc (10:Int) ^ a=10 ^ a*1:=by rw [Int.mul_one]
  _<=10 ^ a*10 ^ c:=Int.mul_le_mul_of_nonneg_left h1 h2
theorem digs_len {n k:Nat} (h:n<10 ^ k):(digs n).length<=k:=by
 by_cases hl:(digs n).length<=k
 ·exact hl
 ·exfalso;have h1:=can_low (can_digs n) (fun e=>by rw [e] at hl;simp at hl);rw [val_digs] at h1;have h2:=pow_le (a:=k) (b:=(digs n).length-1) (by omega);have h3:((10 ^ k:Nat):Int)=10 ^ k:=by simp
  omega
def big (s:Bool) (l:List Int):Int:=if s then -(val l) else val l
def Big (s:Bool) (l:List Int):Prop:=Can l/\(s=true->l≠[])
theorem big_digs (n:Int):big (decide (n<0)) (digs n.natAbs)=n:=by
 unfold big;rw [val_digs];split
 ·rename_i h;simp at h;omega
 ·rename_i h;simp at h;omega
theorem Big_digs (n:Int):Big (decide (n<0)) (digs n.natAbs):=⟨can_digs _,fun h e=>by
 have:=digs_nil.1 e;simp at h;omega⟩
theorem big_neg {s:Bool} {l:List Int} (h:Big s l):decide (big s l<0)=s:=by
 have:=h.1.nonneg;unfold big;cases s with
 |false=>simp;omega
 |true=>
  have h0:val l≠0:=fun e=>h.2 rfl (h.1.nil_iff.2 e);simp;omega
theorem big_abs {s:Bool} {l:List Int} (h:Big s l):digs (big s l).natAbs=l:=by
 have:=h.1.nonneg;have e:(big s l).natAbs=(val l).toNat:=by unfold big;cases s<;>simp<;>omega
 rw [e];exact h.1.symm
end Go.Proofs.YtabicbgeoiilmaaGreatDoor
end
section
namespace Go.Proofs.YtabicbgeoiilmaaGreatDoor
open Go.Vm
set_option maxRecDepth 20000
def intB (z:Int):Int:=if -9223372036854775808<=z/\z<=9223372036854775807 then z else 0
def okB (z:Int):Bool:=decide (-9223372036854775808<=z)&&decide (z<=9223372036854775807)
def faultB (z:Int):Int:=if okB z then 0 else 10
end Go.Proofs.YtabicbgeoiilmaaGreatDoor
end
section
namespace Go.Proofs.YtabicbgeoiilmaaGreatDoor
open Go.Vm
abbrev M64:Int:=18446744073709551616
def InW (n:Int):Prop:=0<=n/\n<M64
theorem add64_ext (x y c:Int) (h:InW x/\InW y/\0<=c/\c<=1):Ext Tryz.prog 268 [.int .u64 x, .int .u64 y, .int .u64 c] (.tuple [.int .u64 ((x+y+c)%M64), .int .u64 ((x+y+c)/M64)]):=by
 intro X vs hr;obtain ⟨u1,r1,rfl,a1,hr⟩:=hr.cons_inv;obtain ⟨u2,r2,rfl,a2,hr⟩:=hr.cons_inv;obtain ⟨u3,r3,rfl,a3,hr⟩:=hr.cons_inv;rw [hr.nil_inv,a1.int_inv,a2.int_inv,a3.int_inv];obtain ⟨⟨h1,_⟩,⟨h2,_⟩,h3,h4⟩:=h;refine ⟨.tuple #[.int .u64 ((x+y+c)%M64), .int .u64 ((x+y+c)/M64)], ?_,RepL.tuple2 (.cons .int (.cons .int .nil))⟩;have:=run_callFunc_extern Tryz.func268 (by kernel_rfl) (by kernel_rfl) (by kernel_rfl) (e:=add64Entry) (by kernel_rfl) #[.int .u64 x, .int .u64 y, .int .u64 c] X.w;rw [run_add64 x y c h1 h2 h3 h4] at this;exact this
noncomputable def sp_add64:ESpec Tryz.prog where
 f:=268
 run:=fun args=>match args with
  |[.int .u64 x, .int .u64 y, .int .u64 c]=>some (InW x/\InW y/\0<=c/\c<=1, .tuple [.int .u64 ((x+y+c)%M64), .int .u64 ((x+y+c)/M64)])
  |_=>none
 ok:=fun args pre r h hp=>by
  split at h
  ·cases h;exact add64_ext _ _ _ hp
  ·cases h
theorem sub64_ext (x y b:Int) (h:InW x/\InW y/\0<=b/\b<=1):Ext Tryz.prog 269 [.int .u64 x, .int .u64 y, .int .u64 b] (.tuple [.int .u64 ((x-y-b)%M64), .int .u64 (if x<y+b then 1 else 0)]):=by
 intro X vs hr;obtain ⟨u1,r1,rfl,a1,hr⟩:=hr.cons_inv;obtain ⟨u2,r2,rfl,a2,hr⟩:=hr.cons_inv;obtain ⟨u3,r3,rfl,a3,hr⟩:=hr.cons_inv;rw [hr.nil_inv,a1.int_inv,a2.int_inv,a3.int_inv];obtain ⟨⟨h1,h5⟩,⟨h2,h6⟩,h3,h4⟩:=h;refine ⟨.tuple #[.int .u64 ((x-y-b)%M64), .int .u64 (if x<y+b then 1 else 0)], ?_,RepL.tuple2 (.cons .int (.cons .int .nil))⟩;have:=run_callFunc_extern Tryz.func269 (by kernel_rfl) (by kernel_rfl) (by kernel_rfl) (e:=sub64Entry) (by kernel_rfl) #[.int .u64 x, .int .u64 y, .int .u64 b] X.w;obtain ⟨x',rfl⟩:=Int.eq_ofNat_of_zero_le h1;obtain ⟨y',rfl⟩:=Int.eq_ofNat_of_zero_le h2;obtain ⟨b',rfl⟩:=Int.eq_ofNat_of_zero_le h3;have k:=run_sub64 (P:=Tryz.prog) x' y' b' (by omega) X.w;rw [show (#[.int .u64 (x':Int), .int .u64 (y':Int), .int .u64 (b':Int)]:Array Value)= #[.int .u64 x', .int .u64 y', .int .u64 b'] from rfl] at this;rw [k] at this;have e1:(((x'+18446744073709551616-y'-b')%18446744073709551616:Nat):Int)=((x':Int)-y'-b')%M64:=by
  simp only [M64] at*;omega
 have e2:(((if x'<y'+b' then 1 else 0:Nat)):Int)=if (x':Int)<(y':Int)+(b':Int) then 1 else 0:=by
  split<;>split<;>omega
 rw [e1,e2] at this;exact this
noncomputable def sp_sub64:ESpec Tryz.prog where
 f:=269
 run:=fun args=>match args with
  |[.int .u64 x, .int .u64 y, .int .u64 c]=>some (InW x/\InW y/\0<=c/\c<=1, .tuple [.int .u64 ((x-y-c)%M64), .int .u64 (if x<y+c then 1 else 0)])
  |_=>none
 ok:=fun args pre r h hp=>by
  split at h
  ·cases h;exact sub64_ext _ _ _ hp
  ·cases h
noncomputable def env_plus (a b c d:Int):Env where
 P:=Tryz.prog
 ty:=tys0
 ext:=extsOf [sp_add64]
abbrev ann_plus:Ann:={slots:=numP 0 [.int .u64, .int .u64],boxes:=[],inv:=fun _ _=>True}
def g_plus_vc (a:Int) (b:Int) (c:Int) (d:Int):Prop:=
 (InW b/\InW d/\0<=(0:Int)/\0<=(1:Int))/\(InW a/\InW c/\0<=(b+d+(0:Int))/M64/\(b+d+(0:Int))/M64<=(1:Int))/\True/\((a+c+(b+d+(0:Int))/M64)%M64,(b+d+(0:Int))%M64,())=((a+c+(b+d)/M64)%M64,(b+d)%M64,())
theorem g_plus_ok (a b c d:Int) (h:InW a/\InW b/\InW c/\InW d):g_plus_vc a b c d:=by
 obtain ⟨ha,hb,hc,hd⟩:=h;refine ⟨⟨hb,hd,by omega,by omega⟩,⟨ha,hc, ?_, ?_⟩,trivial, ?_⟩
 ·simp only [InW,M64] at*;omega
 ·simp only [InW,M64] at*;omega
 ·simp only [Int.add_zero]
set_option maxRecDepth 20000
noncomputable def sp_plus:FSpec Tryz.prog:=mkG 258 (.c (.g (.c (.i .u64) (.c (.i .u64) .z))) (.c (.g (.c (.i .u64) (.c (.i .u64) .z))) .z)) (fun x=>(fun (a b c d:Int)=>(InW a/\InW b/\InW c/\InW d,(.agg [.int .u64 ((a+c+(b+d)/M64)%M64), .int .u64 ((b+d)%M64)]))) x.1.1 x.1.2.1 x.2.1.1 x.2.1.2.1) fun ⟨⟨a,b,_⟩,⟨c,d,_⟩,_⟩ h=>Pure.of_condG (E:=env_plus a b c d) (sh:=[some 2]) (ann:=ann_plus) (x:=(fun (a b c d:Int)=>((a+c+(b+d)/M64)%M64,(b+d)%M64,())) a b c d) (by kernel_rfl) (g_plus_ok a b c d h) rfl (specs_okx rfl [] [] _ rfl rfl rfl) mixed Tryz.func258
def lessB (b d:Int):Int:=if b<d then 1 else 0
noncomputable def env_less (a b c d:Int):Env where
 P:=Tryz.prog
 ty:=tys0
 ext:=extsOf [sp_sub64]
abbrev ann_less:Ann:={slots:=numP 0 [.int .u64, .int .u64],boxes:=[],inv:=fun _ _=>True}
def g_less_vc (a:Int) (b:Int) (c:Int) (d:Int):Prop:=
 (InW b/\InW d/\0<=(0:Int)/\0<=(1:Int))/\(InW a/\InW c/\(0<=if b<d+(0:Int) then (1:Int) else (0:Int))/\(if b<d+(0:Int) then (1:Int) else (0:Int))<=(1:Int))/\True/\((a-c-if b<d+(0:Int) then (1:Int) else (0:Int))%M64,(b-d-(0:Int))%M64,())=((a-c-lessB b d)%M64,(b-d)%M64,())
theorem g_less_ok (a b c d:Int) (h:InW a/\InW b/\InW c/\InW d):g_less_vc a b c d:=by
 obtain ⟨ha,hb,hc,hd⟩:=h;refine ⟨⟨hb,hd,by omega,by omega⟩,⟨ha,hc, ?_, ?_⟩,trivial, ?_⟩
 ·split<;>omega
 ·split<;>omega
 ·simp only [Int.add_zero,Int.sub_zero,lessB]
noncomputable def sp_less:FSpec Tryz.prog:=mkG 260 (.c (.g (.c (.i .u64) (.c (.i .u64) .z))) (.c (.g (.c (.i .u64) (.c (.i .u64) .z))) .z)) (fun x=>(fun (a b c d:Int)=>(InW a/\InW b/\InW c/\InW d,(.agg [.int .u64 ((a-c-lessB b d)%M64), .int .u64 ((b-d)%M64)]))) x.1.1 x.1.2.1 x.2.1.1 x.2.1.2.1) fun ⟨⟨a,b,_⟩,⟨c,d,_⟩,_⟩ h=>Pure.of_condG (E:=env_less a b c d) (sh:=[some 2]) (ann:=ann_less) (x:=(fun (a b c d:Int)=>((a-c-lessB b d)%M64,(b-d)%M64,())) a b c d) (by kernel_rfl) (g_less_ok a b c d h) rfl (specs_okx rfl [] [] _ rfl rfl rfl) mixed Tryz.func260
def hiW (n:Int):Int:=if n<0 then 18446744073709551615 else 0
noncomputable def env_wide (n:Int):Env where
 P:=Tryz.prog
 ty:=tys0
 wrap:=fun|6=>true|9=>true|_=>false
abbrev ann_wide:Ann:={slots:=numP 0 [.int .u64, .int .u64],boxes:=[],inv:=fun _ _=>True}
def g_wide_vc (n:Int):Prop:=
 (decide (n<(0:Int))=true->True/\((18446744073709551615:Int),IntKind.u64.wrap n,())=(hiW n,n%M64,()))/\(decide (n<(0:Int))=false->True/\((0:Int),IntKind.u64.wrap n,())=(hiW n,n%M64,()))
theorem g_wide_ok (n:Int):g_wide_vc n:=by
 simp only [g_wide_vc,decide_eq_true_eq,decide_eq_false_iff_not];have e:IntKind.u64.wrap n=n%M64:=by rw [IntKind.wrap_u64]
 refine ⟨fun h=>⟨trivial, ?_⟩,fun h=>⟨trivial, ?_⟩⟩
 ·simp only [hiW,if_pos h,e]
 ·simp only [hiW,if_neg h,e]
noncomputable def sp_wide:FSpec Tryz.prog:=mkG 256 (.c .j .z) (fun x=>(fun (n:Int)=>(True,(.agg [.int .u64 (hiW n), .int .u64 (n%M64)]))) x.1) fun ⟨n,_⟩ _=>Pure.of_condG (E:=env_wide n) (sh:=[some 2]) (ann:=ann_wide) (x:=(fun (n:Int)=>(hiW n,n%M64,())) n) (by kernel_rfl) (g_wide_ok n) rfl (specs_ok rfl [] [] rfl rfl) mixed Tryz.func256
noncomputable def env_doPlus (a b c d:Int):Env where
 P:=Tryz.prog
 ty:=tys0
 specs:=specsOf [sp_plus]
abbrev ann_doPlus:Ann:={slots:=numP 0 [.int .u64, .int .u64],boxes:=[],inv:=fun _ _=>True}
def g_doPlus_vc (a:Int) (b:Int) (c:Int) (d:Int):Prop:=
 (InW c/\InW d/\InW a/\InW b)/\True/\((c+a+(d+b)/M64)%M64,(d+b)%M64,())=((c+a+(d+b)/M64)%M64,(d+b)%M64,())
theorem g_doPlus_ok (a b c d:Int) (h:InW a/\InW b/\InW c/\InW d):g_doPlus_vc a b c d:=by
 obtain ⟨ha,hb,hc,hd⟩:=h;exact ⟨⟨hc,hd,ha,hb⟩,trivial,rfl⟩
noncomputable def sp_doPlus:FSpec Tryz.prog:=mkG 257 (.c (.g (.c (.i .u64) (.c (.i .u64) .z))) (.c (.f (.c (.i .u64) (.c (.i .u64) .z))) .z)) (fun x=>(fun (a b c d:Int)=>(InW a/\InW b/\InW c/\InW d,(.agg [.int .u64 ((c+a+(d+b)/M64)%M64), .int .u64 ((d+b)%M64)]))) x.1.1 x.1.2.1 x.2.1.1 x.2.1.2.1) fun ⟨⟨a,b,_⟩,⟨c,d,_⟩,_⟩ h=>Pure.of_condG (E:=env_doPlus a b c d) (sh:=[some 2]) (ann:=ann_doPlus) (x:=(fun (a b c d:Int)=>((c+a+(d+b)/M64)%M64,(d+b)%M64,())) a b c d) (by kernel_rfl) (g_doPlus_ok a b c d h) rfl (specs_ok rfl _ [] rfl rfl) mixed Tryz.func257
def addW (s:Int×Int) (n:Int):Int×Int:=((s.1+hiW n+(s.2+n%M64)/M64)%M64,(s.2+n%M64)%M64)
def InvE (l:List Int) (a b i hi lo:Int):Prop:=0<=i/\i<=l.length/\(hi,lo)=(l.take i.toNat).foldl addW (a,b)/\InW hi/\InW lo
noncomputable def env_eachPlus (l:List Int) (a b:Int):Env where
 P:=Tryz.prog
 ty:=tys0
 specs:=specsOf [sp_wide,sp_doPlus]
 pins:=[9000]
 heads:=fun
  |1=>some {slots:=[(9, .int .i64)],boxes:=[(9000,[.int .u64, .int .u64])],inv:=fun _ (x:Int×Int×Int×Unit)=>InvE l a b x.1 x.2.1 x.2.2.1,measure:=fun _ (x:Int×Int×Int×Unit)=>(l.length-x.1).toNat}
  |_=>none
abbrev ann_eachPlus:Ann:={slots:=numP 0 [],boxes:=[(9000,[.int .u64, .int .u64])],inv:=fun _ _=>True}
noncomputable def g_eachPlus (l:List Int) (a b:Int):Prop:=vc (env_eachPlus l a b) (codeOf Tryz.f255) ⟨(start0 Tryz.f255 [.list .tmp I l, .fn (.func 257) [] [.ptr 9000 0], .ptr 9000 0]).s,[(9000, .box [.int .u64 a, .int .u64 b])]⟩ (exitG (env_eachPlus l a b).P Tryz.f255.results.toList [] (env_eachPlus l a b).pins ann_eachPlus ((l.foldl addW (a,b)).1,(l.foldl addW (a,b)).2,()))
def g_eachPlus_vc (l:List Int) (a:Int) (b:Int):Prop:=
 (True/\InvE l a b (0:Int) a b)/\∀(x:Int×Int×Int×Unit),InvE l a b x.1 x.2.1 x.2.2.1->(decide (x.1<(↑l.length:Int))=true->(0<=x.1/\x.1<(↑l.length:Int))/\∀(x_1:Int),l[x.1.toNat]? =some x_1->True/\(InW (hiW x_1)/\InW (x_1%M64)/\InW x.2.1/\InW x.2.2.1)/\(-9223372036854775808<=x.1+1/\x.1+1<=9223372036854775807)/\True/\InvE l a b (x.1+1) ((x.2.1+hiW x_1+(x.2.2.1+x_1%M64)/M64)%M64) ((x.2.2.1+x_1%M64)%M64)/\((↑l.length:Int)-(x.1+1)).toNat<((↑l.length:Int)-x.1).toNat)/\(decide (x.1<(↑l.length:Int))=false->True/\(x.2.1,x.2.2.1,())=((List.foldl addW (a,b) l).1,(List.foldl addW (a,b) l).2,()))
theorem hiW_w (n:Int):InW (hiW n):=by
 unfold hiW InW M64;split<;>omega
theorem mod_w (n:Int):InW (n%M64):=⟨Int.emod_nonneg _ (by decide),Int.emod_lt_of_pos _ (by decide)⟩
theorem invE_step {l:List Int} {a b i hi lo y:Int} (h:InvE l a b i hi lo) (hl:i<l.length) (hy:l[i.toNat]? =some y):InvE l a b (i+1) ((hi+hiW y+(lo+y%M64)/M64)%M64) ((lo+y%M64)%M64):=by
 obtain ⟨h1,h2,h3,_,_⟩:=h;refine ⟨by omega,by omega, ?_,mod_w _,mod_w _⟩;have e:(i+1).toNat=i.toNat+1:=by omega
 rw [e,List.take_add_one,hy,List.foldl_append,<-h3];rfl
theorem invE_end {l:List Int} {a b i hi lo:Int} (h:InvE l a b i hi lo) (hl: ¬i<l.length):(hi,lo)=l.foldl addW (a,b):=by
 obtain ⟨h1,h2,h3,_,_⟩:=h;rw [h3,List.take_of_length_le (by omega)]
theorem g_eachPlus_ok (l:List Int) (a b:Int) (h:l.length<=1000000000/\InW a/\InW b):g_eachPlus_vc l a b:=by
 obtain ⟨hl,ha,hb⟩:=h;refine ⟨⟨trivial,by omega,by omega,by simp,ha,hb⟩, ?_⟩;rintro ⟨i,hi,lo,⟨⟩⟩ hI;simp only [decide_eq_true_eq,decide_eq_false_iff_not] at*;have hb:=hI.1;refine ⟨fun hlt=>⟨⟨hb,hlt⟩,fun y hy=>⟨trivial,⟨hiW_w y,mod_w y,hI.2.2.2.1,hI.2.2.2.2⟩,by omega,trivial,invE_step hI hlt hy,by omega⟩⟩,fun hge=>⟨trivial, ?_⟩⟩;have:=invE_end hI hge;rw [<-this]
theorem g_eachPlus_eq (l:List Int) (a b:Int):g_eachPlus l a b=g_eachPlus_vc l a b:=by kernel_rfl
set_option maxRecDepth 20000 in
theorem eachPlus_upd (l:List Int) (a b:Int) (h:l.length<=1000000000/\InW a/\InW b):UpdC Tryz.prog 255 [.list .tmp I l, .fn (.func 257) [] [.ptr 9000 0], .ptr 9000 0] [(9000, .box [.int .u64 a, .int .u64 b])]
 (.tuple []) [(9000, .box [.int .u64 (l.foldl addW (a,b)).1, .int .u64 (l.foldl addW (a,b)).2])]:=
 UpdC.of_vcG (E:=env_eachPlus l a b) (sh:=[]) (ann:=ann_eachPlus) (x:=((l.foldl addW (a,b)).1,(l.foldl addW (a,b)).2,())) (fn:=Tryz.f255) (c:=codeOf Tryz.f255) (specs_ok (P:=Tryz.prog) rfl [sp_wide,sp_doPlus] [] rfl rfl) mixed Tryz.func255 rfl rfl rfl rfl (by
  have:=g_eachPlus_ok l a b h;rw [<-g_eachPlus_eq] at this;exact this)
def q_eachPlus (l:List Int) (a b:Int):Prop×V×Store:=(l.length<=1000000000/\InW a/\InW b, .tuple [],[(9000, .box [.int .u64 (l.foldl addW (a,b)).1, .int .u64 (l.foldl addW (a,b)).2])])
noncomputable def so_eachPlus:OSpec Tryz.prog where
 f:=255
 run:=fun args σ=>match args,σ with
  |[v0, .fn (.func 257) [] [.ptr 9000 0], .ptr 9000 0],[(9000, .box [.int .u64 a, .int .u64 b])]=>(match (asL I v0:Option (List Int)) with|some l=>some (q_eachPlus l a b)|none=>none)
  |_,_=>none
 ok:=fun args σ pre r σ' h hp=>by
  try dsimp only at h
  split at h
  ·rename_i v0 a b;cases h0:(asL I v0:Option (List Int)) with
   |none=>rw [h0] at h;cases h
   |some l=>
    rw [h0] at h;try dsimp only at h
    have h:=Option.some.inj h;unfold q_eachPlus at h;cases h;exact (eachPlus_upd l a b hp).weak (.cons (asL_weak h0) (.cons (Weak.refl _) (.cons (Weak.refl _) .nil)))
  ·cases h
noncomputable def env_doMinus (a b c d:Int):Env where
 P:=Tryz.prog
 ty:=tys0
 specs:=specsOf [sp_less]
abbrev ann_doMinus:Ann:={slots:=numP 0 [.int .u64, .int .u64],boxes:=[],inv:=fun _ _=>True}
def g_doMinus_vc (a:Int) (b:Int) (c:Int) (d:Int):Prop:=
 (InW c/\InW d/\InW a/\InW b)/\True/\((c-a-lessB d b)%M64,(d-b)%M64,())=((c-a-lessB d b)%M64,(d-b)%M64,())
theorem g_doMinus_ok (a b c d:Int) (h:InW a/\InW b/\InW c/\InW d):g_doMinus_vc a b c d:=by
 obtain ⟨ha,hb,hc,hd⟩:=h;exact ⟨⟨hc,hd,ha,hb⟩,trivial,rfl⟩
noncomputable def sp_doMinus:FSpec Tryz.prog:=mkG 259 (.c (.g (.c (.i .u64) (.c (.i .u64) .z))) (.c (.f (.c (.i .u64) (.c (.i .u64) .z))) .z)) (fun x=>(fun (a b c d:Int)=>(InW a/\InW b/\InW c/\InW d,(.agg [.int .u64 ((c-a-lessB d b)%M64), .int .u64 ((d-b)%M64)]))) x.1.1 x.1.2.1 x.2.1.1 x.2.1.2.1) fun ⟨⟨a,b,_⟩,⟨c,d,_⟩,_⟩ h=>Pure.of_condG (E:=env_doMinus a b c d) (sh:=[some 2]) (ann:=ann_doMinus) (x:=(fun (a b c d:Int)=>((c-a-lessB d b)%M64,(d-b)%M64,())) a b c d) (by kernel_rfl) (g_doMinus_ok a b c d h) rfl (specs_ok rfl _ [] rfl rfl) mixed Tryz.func259
def subW (s:Int×Int) (n:Int):Int×Int:=((s.1-hiW n-lessB s.2 (n%M64))%M64,(s.2-n%M64)%M64)
def InvM (l:List Int) (a b i hi lo:Int):Prop:=0<=i/\i<=l.length/\(hi,lo)=(l.take i.toNat).foldl subW (a,b)/\InW hi/\InW lo
noncomputable def env_eachMinus (l:List Int) (a b:Int):Env where
 P:=Tryz.prog
 ty:=tys0
 specs:=specsOf [sp_wide,sp_doMinus]
 pins:=[9000]
 heads:=fun
  |1=>some {slots:=[(9, .int .i64)],boxes:=[(9000,[.int .u64, .int .u64])],inv:=fun _ (x:Int×Int×Int×Unit)=>InvM l a b x.1 x.2.1 x.2.2.1,measure:=fun _ (x:Int×Int×Int×Unit)=>(l.length-x.1).toNat}
  |_=>none
abbrev ann_eachMinus:Ann:={slots:=numP 0 [],boxes:=[(9000,[.int .u64, .int .u64])],inv:=fun _ _=>True}
noncomputable def g_eachMinus (l:List Int) (a b:Int):Prop:=vc (env_eachMinus l a b) (codeOf Tryz.f255) ⟨(start0 Tryz.f255 [.list .tmp I l, .fn (.func 259) [] [.ptr 9000 0], .ptr 9000 0]).s,[(9000, .box [.int .u64 a, .int .u64 b])]⟩ (exitG (env_eachMinus l a b).P Tryz.f255.results.toList [] (env_eachMinus l a b).pins ann_eachMinus ((l.foldl subW (a,b)).1,(l.foldl subW (a,b)).2,()))
def g_eachMinus_vc (l:List Int) (a:Int) (b:Int):Prop:=
 (True/\InvM l a b (0:Int) a b)/\∀(x:Int×Int×Int×Unit),InvM l a b x.1 x.2.1 x.2.2.1->(decide (x.1<(↑l.length:Int))=true->(0<=x.1/\x.1<(↑l.length:Int))/\∀(x_1:Int),l[x.1.toNat]? =some x_1->True/\(InW (hiW x_1)/\InW (x_1%M64)/\InW x.2.1/\InW x.2.2.1)/\(-9223372036854775808<=x.1+1/\x.1+1<=9223372036854775807)/\True/\InvM l a b (x.1+1) ((x.2.1-hiW x_1-lessB x.2.2.1 (x_1%M64))%M64) ((x.2.2.1-x_1%M64)%M64)/\((↑l.length:Int)-(x.1+1)).toNat<((↑l.length:Int)-x.1).toNat)/\(decide (x.1<(↑l.length:Int))=false->True/\(x.2.1,x.2.2.1,())=((List.foldl subW (a,b) l).1,(List.foldl subW (a,b) l).2,()))
theorem invM_step {l:List Int} {a b i hi lo y:Int} (h:InvM l a b i hi lo) (hl:i<l.length) (hy:l[i.toNat]? =some y):InvM l a b (i+1) ((hi-hiW y-lessB lo (y%M64))%M64) ((lo-y%M64)%M64):=by
 obtain ⟨h1,h2,h3,_,_⟩:=h;refine ⟨by omega,by omega, ?_,mod_w _,mod_w _⟩;have e:(i+1).toNat=i.toNat+1:=by omega
 rw [e,List.take_add_one,hy,List.foldl_append,<-h3];rfl
theorem invM_end {l:List Int} {a b i hi lo:Int} (h:InvM l a b i hi lo) (hl: ¬i<l.length):(hi,lo)=l.foldl subW (a,b):=by
 obtain ⟨h1,h2,h3,_,_⟩:=h;rw [h3,List.take_of_length_le (by omega)]
theorem g_eachMinus_ok (l:List Int) (a b:Int) (h:l.length<=1000000000/\InW a/\InW b):g_eachMinus_vc l a b:=by
 obtain ⟨hl,ha,hb⟩:=h;refine ⟨⟨trivial,by omega,by omega,by simp,ha,hb⟩, ?_⟩;rintro ⟨i,hi,lo,⟨⟩⟩ hI;simp only [decide_eq_true_eq,decide_eq_false_iff_not] at*;have hb:=hI.1;refine ⟨fun hlt=>⟨⟨hb,hlt⟩,fun y hy=>⟨trivial,⟨hiW_w y,mod_w y,hI.2.2.2.1,hI.2.2.2.2⟩,by omega,trivial,invM_step hI hlt hy,by omega⟩⟩,fun hge=>⟨trivial, ?_⟩⟩;have:=invM_end hI hge;rw [<-this]
theorem g_eachMinus_eq (l:List Int) (a b:Int):g_eachMinus l a b=g_eachMinus_vc l a b:=by kernel_rfl
set_option maxRecDepth 20000 in
theorem eachMinus_upd (l:List Int) (a b:Int) (h:l.length<=1000000000/\InW a/\InW b):UpdC Tryz.prog 255 [.list .tmp I l, .fn (.func 259) [] [.ptr 9000 0], .ptr 9000 0] [(9000, .box [.int .u64 a, .int .u64 b])]
 (.tuple []) [(9000, .box [.int .u64 (l.foldl subW (a,b)).1, .int .u64 (l.foldl subW (a,b)).2])]:=
 UpdC.of_vcG (E:=env_eachMinus l a b) (sh:=[]) (ann:=ann_eachMinus) (x:=((l.foldl subW (a,b)).1,(l.foldl subW (a,b)).2,())) (fn:=Tryz.f255) (c:=codeOf Tryz.f255) (specs_ok (P:=Tryz.prog) rfl [sp_wide,sp_doMinus] [] rfl rfl) mixed Tryz.func255 rfl rfl rfl rfl (by
  have:=g_eachMinus_ok l a b h;rw [<-g_eachMinus_eq] at this;exact this)
def q_eachMinus (l:List Int) (a b:Int):Prop×V×Store:=(l.length<=1000000000/\InW a/\InW b, .tuple [],[(9000, .box [.int .u64 (l.foldl subW (a,b)).1, .int .u64 (l.foldl subW (a,b)).2])])
noncomputable def so_eachMinus:OSpec Tryz.prog where
 f:=255
 run:=fun args σ=>match args,σ with
  |[v0, .fn (.func 259) [] [.ptr 9000 0], .ptr 9000 0],[(9000, .box [.int .u64 a, .int .u64 b])]=>(match (asL I v0:Option (List Int)) with|some l=>some (q_eachMinus l a b)|none=>none)
  |_,_=>none
 ok:=fun args σ pre r σ' h hp=>by
  try dsimp only at h
  split at h
  ·rename_i v0 a b;cases h0:(asL I v0:Option (List Int)) with
   |none=>rw [h0] at h;cases h
   |some l=>
    rw [h0] at h;try dsimp only at h
    have h:=Option.some.inj h;unfold q_eachMinus at h;cases h;exact (eachMinus_upd l a b hp).weak (.cons (asL_weak h0) (.cons (Weak.refl _) (.cons (Weak.refl _) .nil)))
  ·cases h
def intF (a b:Int):Int×Int:=if hiW (IntKind.i64.wrap b)=a/\IntKind.i64.wrap b%M64=b then (IntKind.i64.wrap b,0) else (0,10)
noncomputable def env_pint (a b:Int):Env where
 P:=Tryz.prog
 ty:=tys0
 specs:=specsOf [sp_wide]
 wrap:=fun|7=>true|_=>false
def g_pint_vc (a:Int) (b:Int):Prop:=
 True/\((!(decide (hiW (IntKind.i64.wrap b)=a)&&(decide (IntKind.i64.wrap b%M64=b)&&true)))=true->((0:Int),(10:Int),())=((intF a b).1,(intF a b).2,()))/\((!(decide (hiW (IntKind.i64.wrap b)=a)&&(decide (IntKind.i64.wrap b%M64=b)&&true)))=false->(IntKind.i64.wrap b,(0:Int),())=((intF a b).1,(intF a b).2,()))
theorem g_pint_ok (a b:Int):g_pint_vc a b:=by
 simp only [g_pint_vc,Bool.and_true,Bool.not_eq_true',Bool.not_eq_false',Bool.and_eq_true,Bool.and_eq_false_iff,decide_eq_true_eq,decide_eq_false_iff_not,true_and];refine ⟨fun h=> ?_,fun h=> ?_⟩
 ·have: ¬(hiW (IntKind.i64.wrap b)=a/\IntKind.i64.wrap b%M64=b):=fun hh=>by
   rcases h with h|h
   ·exact h hh.1
   ·exact h hh.2
  simp only [intF,if_neg this]
 ·simp only [intF,if_pos h]
noncomputable def sp_pint:FSpec Tryz.prog:=mkF 261 (.c (.g (.c (.i .u64) (.c (.i .u64) .z))) .z) [.int .i64, .int .i64] (fun x=>(fun (a b:Int)=>(True,(intF a b).1,(intF a b).2,())) x.1.1 x.1.2.1) fun ⟨⟨a,b,_⟩,_⟩ _=>Pure.of_cond (E:=env_pint a b) (by kernel_rfl) (g_pint_ok a b) (specs_ok rfl _ [] rfl rfl) mixed Tryz.func261
end Go.Proofs.YtabicbgeoiilmaaGreatDoor
end
section
namespace Go.Proofs.YtabicbgeoiilmaaGreatDoor
open Go.Vm
noncomputable def so_each:OSpec Tryz.prog where
 f:=255
 run:=fun args σ=>match so_eachPlus.run args σ with
  |some x=>some x
  |none=>so_eachMinus.run args σ
 ok:=fun args σ pre r σ' h hp=>by
  split at h
  ·rename_i x hx;cases h;exact so_eachPlus.ok args σ pre r σ' hx hp
  ·exact so_eachMinus.ok args σ pre r σ' h hp
def sumW (l m:List Int):Int×Int:=m.foldl subW (l.foldl addW (0,0))
def netF (l m:List Int):Int×Int:=intF (sumW l m).1 (sumW l m).2
noncomputable def env_net (l m:List Int):Env where
 P:=Tryz.prog
 ty:=tys0
 specs:=specsOf [sp_pint]
 upd:=updsOf [so_each.upd]
def g_net_vc (l:List Int) (m:List Int):Prop:=
 (l.length<=(1000000000:Nat)/\InW (0:Int)/\InW (0:Int))/\(m.length<=(1000000000:Nat)/\InW (List.foldl addW ((0:Int),(0:Int)) l).1/\InW (List.foldl addW ((0:Int),(0:Int)) l).2)/\True/\((intF (List.foldl subW ((List.foldl addW ((0:Int),(0:Int)) l).1,(List.foldl addW ((0:Int),(0:Int)) l).2) m).1 (List.foldl subW ((List.foldl addW ((0:Int),(0:Int)) l).1,(List.foldl addW ((0:Int),(0:Int)) l).2) m).2).1,(intF (List.foldl subW ((List.foldl addW ((0:Int),(0:Int)) l).1,(List.foldl addW ((0:Int),(0:Int)) l).2) m).1 (List.foldl subW ((List.foldl addW ((0:Int),(0:Int)) l).1,(List.foldl addW ((0:Int),(0:Int)) l).2) m).2).2,())=((netF l m).1,(netF l m).2,())
theorem addW_w {l:List Int}: ∀{s:Int×Int},InW s.1/\InW s.2->InW (l.foldl addW s).1/\InW (l.foldl addW s).2:=by
 induction l with
 |nil=>exact fun h=>h
 |cons a r ih=>exact fun _=>ih ⟨mod_w _,mod_w _⟩
theorem g_net_ok (l m:List Int) (h:l.length<=1000000000/\m.length<=1000000000):g_net_vc l m:=by
 have h0:InW 0:=⟨by decide,by decide⟩
 have h1:=addW_w (l:=l) (s:=(0,0)) ⟨h0,h0⟩;exact ⟨⟨h.1,h0,h0⟩,⟨h.2,h1.1,h1.2⟩,trivial,rfl⟩
set_option maxRecDepth 20000
noncomputable def sp_net:FSpec Tryz.prog:=mkF 241 (.c (.l I) (.c (.l I) .z)) [.int .i64, .int .i64] (fun x=>(fun (l m:List Int)=>(l.length<=1000000000/\m.length<=1000000000,(netF l m).1,(netF l m).2,())) x.1 x.2.1) fun ⟨l,m,_⟩ h=>Pure.of_cond (E:=env_net l m) (by kernel_rfl) (g_net_ok l m h) (specs_ok rfl _ _ rfl rfl) mixed Tryz.func241
end Go.Proofs.YtabicbgeoiilmaaGreatDoor
end
