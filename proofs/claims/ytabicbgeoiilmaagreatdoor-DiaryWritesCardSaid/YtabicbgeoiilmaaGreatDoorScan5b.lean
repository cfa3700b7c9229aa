/-
  Numbers and their numerals: what comes back.
-/
import Derived.Test.YtabicbgeoiilmaaGreatDoorNum2
import Derived.Test.YtabicbgeoiilmaaGreatDoorShelf
import Derived.Lib.AppendIntMem
section
namespace Go.Proofs.YtabicbgeoiilmaaGreatDoor
open Go.Vm
theorem pure_calls {P:Program} {f:FuncId} {args:List V} {r:V} (h: ∀(F:Fr) (w:World) (vs:List Value),Vm.Ground F w->RepL ⟨w,[],fun _=>none,F⟩ args vs->
 Calls P f vs.toArray w fun e w'=> ∃u,e= .returned u/\RowKit.Below w.heap.size w w'/\∀X,Rep X r u) (ho:own [] 60 r=some r) (hi:ids [] 60 r=[]):Pure P f args r:=by
 intro F w vs hF hr;refine (h F w vs hF hr).mono fun e w' ⟨u,he,hb,hru⟩=>⟨u,he,hb,[],fun _=>none,r,⟨fun id o h=>by simp [Store.get] at h,fun i j o o' b h=>by simp [Store.get] at h,fun id o b h=>by simp [Store.get] at h,fun b hb'=>hF.out b (Nat.le_trans hb.size hb'),fun b hb'=>hF.out b hb',⟨fun e he=>by simp [hF.pin] at he,fun e he=>⟨(hb.block _ (hF.lt he)).trans (hF.gnd e he),fun h=>absurd (hF.lt he) (Nat.not_lt.2 h)⟩⟩⟩,hru _,ho,by rw [hi];exact .nil⟩
theorem size_of {s:ByteArray} {l:List UInt8} (h:s.data.toList=l):s.size=l.length:=by rw [<-h];rfl
theorem rep_str {X:Ctx} (l:List UInt8):Rep X (.str l) (.string ⟨l.toArray⟩):= .str (by simp)
theorem hasPrefix_pure (s p:List UInt8):Pure Tryz.prog 86 [.str s, .str p] (.bool (Lib.hasPrefix s p)):=by
 refine pure_calls (fun F w vs hF hr=> ?_) rfl rfl;obtain ⟨u1,r1,rfl,a1,hr⟩:=hr.cons_inv;obtain ⟨u2,r2,rfl,a2,hr⟩:=hr.cons_inv;rw [hr.nil_inv];obtain ⟨s1,rfl,h1⟩:=a1.str_inv;obtain ⟨s2,rfl,h2⟩:=a2.str_inv;refine (Tryz.strings_HasPrefix s1 s2 w).mono fun e w' ⟨he,hw⟩=>⟨_,he,by rw [hw];exact .refl _ _,fun X=> ?_⟩
 rw [h1,h2];exact .bool
noncomputable def sp_hasPrefix:FSpec Tryz.prog where
 f:=86
 run:=fun args=>match args with
  |[.str s, .str p]=>some (True, .bool (Lib.hasPrefix s p))
  |_=>none
 ok:=fun args pre r h _=>by
  split at h
  ·cases h;exact hasPrefix_pure _ _
  ·cases h
theorem cutPrefix_pure (s p:List UInt8):Pure Tryz.prog 87 [.str s, .str p] (.tuple [.str (Lib.trimPrefix s p), .bool (Lib.hasPrefix s p)]):=by
 refine pure_calls (fun F w vs hF hr=> ?_) rfl rfl;obtain ⟨u1,r1,rfl,a1,hr⟩:=hr.cons_inv;obtain ⟨u2,r2,rfl,a2,hr⟩:=hr.cons_inv;rw [hr.nil_inv];obtain ⟨s1,rfl,h1⟩:=a1.str_inv;obtain ⟨s2,rfl,h2⟩:=a2.str_inv;refine (Tryz.strings_CutPrefix s1 s2 w).mono fun e w' ⟨he,hw⟩=>⟨_,he,by rw [hw];exact .refl _ _,fun X=> ?_⟩
 rw [h1,h2];exact RepL.tuple2 (.cons (rep_str _) (.cons .bool .nil))
noncomputable def sp_cutPrefix:FSpec Tryz.prog where
 f:=87
 run:=fun args=>match args with
  |[.str s, .str p]=>some (True, .tuple [.str (Lib.trimPrefix s p), .bool (Lib.hasPrefix s p)])
  |_=>none
 ok:=fun args pre r h _=>by
  split at h
  ·cases h;exact cutPrefix_pure _ _
  ·cases h
theorem ground_cell {F:Fr} {w:World} (hF:Vm.Ground F w) {b:Nat} {p:Array Value->Prop} (h:Lies0 F.gnd.1 b p): ∃cs t,w.heap[b]? =some (.cells cs t (0,0))/\p cs:=by
 obtain ⟨cs,t,hm,hp⟩:=h;exact ⟨cs,t,hF.gnd _ hm,hp⟩
theorem cell_zero {w:World} {b:Nat} {cs:Array Value} {t:TypeId} (h:w.heap[b]? =some (.cells cs t (0,0))):w.cell? ⟨b,0,none⟩=cs[0]? :=by
 simp [World.cell?,h]
theorem ground_tab {F:Fr} {w:World} (hF:Vm.Ground F w):Lib.TabIs Tryz.prog w "internal/strconv.uint64pow10" .u64 Lib.pow10Tab:=by
 obtain ⟨cs,t,h,hp⟩:=ground_cell hF F.gnd.2.2.2.2;have hg:Tryz.prog.globalNamed "internal/strconv.uint64pow10" =some 1:=by kernel_rfl
 unfold Lib.TabIs World.var?;rw [hg];simp only [Option.bind_some,h,hp]
theorem ground_num {F:Fr} {w:World} (hF:Vm.Ground F w): ∃m,w.cell? ⟨0,0,none⟩=some (.int .i64 m):=by
 obtain ⟨cs,t,h,m,hp⟩:=ground_cell hF F.gnd.2.2.2.1;exact ⟨m,by rw [cell_zero h,hp]⟩
theorem ground_err0 {F:Fr} {w:World} (hF:Vm.Ground F w): ∃t v,w.cell? ⟨2,0,none⟩=some (.iface t v):=by
 obtain ⟨cs,t,h,te,v,hp⟩:=ground_cell hF F.gnd.2.1;exact ⟨te,v,by rw [cell_zero h,hp]⟩
theorem ground_err1 {F:Fr} {w:World} (hF:Vm.Ground F w): ∃t v,w.cell? ⟨3,0,none⟩=some (.iface t v):=by
 obtain ⟨cs,t,h,te,v,hp⟩:=ground_cell hF F.gnd.2.2.1;exact ⟨te,v,by rw [cell_zero h,hp]⟩
theorem cut_pure (s p:List UInt8) (h:s.length<4294967281):Pure Tryz.prog 55 [.str s, .str p] (.tuple [.str (Lib.cut s p).1, .str (Lib.cut s p).2.1, .bool (Lib.cut s p).2.2]):=by
 refine pure_calls (fun F w vs hF hr=> ?_) rfl rfl;obtain ⟨u1,r1,rfl,a1,hr⟩:=hr.cons_inv;obtain ⟨u2,r2,rfl,a2,hr⟩:=hr.cons_inv;rw [hr.nil_inv];obtain ⟨s1,rfl,h1⟩:=a1.str_inv;obtain ⟨s2,rfl,h2⟩:=a2.str_inv;obtain ⟨m,hm⟩:=ground_num hF;refine (Tryz.strings_Cut s1 s2 m w (by rw [size_of h1];exact h) hm).mono fun e w' ⟨he,n,hw⟩=>⟨_,he,by rw [hw];exact ⟨rfl,rfl,rfl,Nat.le_refl _,fun _ _=>rfl⟩,fun X=> ?_⟩
 rw [h1,h2];exact RepL.tuple2 (.cons (rep_str _) (.cons (rep_str _) (.cons .bool .nil)))
noncomputable def sp_cut:FSpec Tryz.prog where
 f:=55
 run:=fun args=>match args with
  |[.str s, .str p]=>some (s.length<4294967281, .tuple [.str (Lib.cut s p).1, .str (Lib.cut s p).2.1, .bool (Lib.cut s p).2.2])
  |_=>none
 ok:=fun args pre r h hp=>by
  split at h
  ·cases h;exact cut_pure _ _ hp
  ·cases h
theorem itoa_pure (n:Int) (h:InI n):Pure Tryz.prog 46 [.int .i64 n] (.str (Lib.itoa n)):=by
 refine pure_calls (fun F w vs hF hr=> ?_) rfl rfl;obtain ⟨u1,r1,rfl,a1,hr⟩:=hr.cons_inv;rw [hr.nil_inv,a1.int_inv];refine (Tryz.strconv_Itoa n h.1 h.2 w (ground_tab hF)).mono fun e w' ⟨he,k,os,hw⟩=>⟨_,he,by rw [hw];exact Lib.below_grow _ w (Nat.le_refl _) k os,fun X=>rep_str _⟩
noncomputable def sp_itoa:FSpec Tryz.prog where
 f:=46
 run:=fun args=>match args with
  |[.int .i64 n]=>some (InI n, .str (Lib.itoa n))
  |_=>none
 ok:=fun args pre r h hp=>by
  split at h
  ·cases h;exact itoa_pure _ hp
  ·cases h
def atoiV (s:List UInt8):Int:=match Lib.atoiAll s with
 | .ok v=>v
 | .range=>Lib.atoiSat s
 |_=>0
def atoiE (s:List UInt8):Bool:=match Lib.atoiAll s with
 | .ok _=>false
 |_=>true
theorem below_bytes (w:World) (e:TypeId) (s:ByteArray):RowKit.Below w.heap.size w (Lib.bytesWorld w e s):=
 ⟨rfl,rfl,rfl,by rw [Lib.bytesWorld_size];omega,fun k hk=>Lib.bytesWorld_at_old w e s k hk⟩
theorem atoi_pure (s:List UInt8) (h:s.length<=281474976710656):Pure Tryz.prog 89 [.str s] (.tuple [.int .i64 (atoiV s), .err (atoiE s)]):=by
 refine pure_calls (fun F w vs hF hr=> ?_) rfl rfl;obtain ⟨u1,r1,rfl,a1,hr⟩:=hr.cons_inv;rw [hr.nil_inv];obtain ⟨s1,rfl,h1⟩:=a1.str_inv;have hs:=size_of h1;unfold atoiV atoiE;rw [<-h1];cases hc:Lib.atoiAll s1.data.toList with
 |ok v=>
  refine (Tryz.strconv_Atoi_ok s1 (by omega) v hc w).mono fun e w' ⟨he,hw⟩=>⟨_,he, ?_,fun X=>RepL.tuple2 (.cons .int (.cons .errN .nil))⟩
  rcases hw with rfl|⟨t,rfl⟩
  ·exact .refl _ _
  ·exact below_bytes w 5 t
 |range=>
  obtain ⟨te,v,hv⟩:=ground_err1 hF;exact (Tryz.strconv_Atoi_range s1 (by omega) hc _ w hv (.inr ⟨te,v,rfl⟩)).mono fun e w' ⟨N,he,_,_,hb⟩=>⟨_,he,hb,fun X=>RepL.tuple2 (.cons .int (.cons .errS .nil))⟩
 |_=>
  obtain ⟨te,v,hv⟩:=ground_err0 hF;exact (Tryz.strconv_Atoi_none s1 (by omega) ⟨fun v k=>(by rw [hc] at k;cases k),fun k=>(by rw [hc] at k;cases k)⟩ _ w hv (.inr ⟨te,v,rfl⟩)).mono fun e w' ⟨N,he,_,_,hb⟩=>⟨_,he,hb,fun X=>RepL.tuple2 (.cons .int (.cons .errS .nil))⟩
noncomputable def sp_atoi:FSpec Tryz.prog where
 f:=89
 run:=fun args=>match args with
  |[.str s]=>some (s.length<=281474976710656, .tuple [.int .i64 (atoiV s), .err (atoiE s)])
  |_=>none
 ok:=fun args pre r h hp=>by
  split at h
  ·cases h;exact atoi_pure _ hp
  ·cases h
end Go.Proofs.YtabicbgeoiilmaaGreatDoor
end
section
namespace Go.Proofs.YtabicbgeoiilmaaGreatDoor
open Go.Vm
abbrev By:=List UInt8
def fromF (s:By) (a:Int):By×Bool:=if a<0∨(s.length:Int)<a then ([],false) else (s.drop a.toNat,true)
theorem fromF_bad {s:By} {a:Int} (h:a<0∨(s.length:Int)<a):fromF s a=([],false):=by unfold fromF;rw [if_pos h]
theorem fromF_good {s:By} {a:Int} (h: ¬(a<0∨(s.length:Int)<a)):fromF s a=(s.drop a.toNat,true):=by unfold fromF;rw [if_neg h]
noncomputable def env_from (s:By) (a:Int):Env where
 P:=Tryz.prog
 ty:=tys0
def g_from_vc (s:By) (a:Int):Prop:=
 (decide (a<(0:Int))=false->(decide ((↑(List.length s):Int)<a)=true->([],false,())=((fromF s a).1,(fromF s a).2,()))/\(decide ((↑(List.length s):Int)<a)=false->(0<=a/\a<=(↑(List.length s):Int))/\(List.drop a.toNat s,true,())=((fromF s a).1,(fromF s a).2,())))/\(decide (a<(0:Int))= !false->([],false,())=((fromF s a).1,(fromF s a).2,()))
theorem g_from_ok (s:By) (a:Int):g_from_vc s a:=by
 unfold g_from_vc;simp only [decide_eq_true_eq,decide_eq_false_iff_not,Bool.not_false];refine ⟨fun c=>⟨fun d=> ?_,fun d=>⟨by omega, ?_⟩⟩,fun c=> ?_⟩
 ·rw [fromF_bad (.inr d)]
 ·rw [fromF_good (by omega)]
 ·rw [fromF_bad (.inl c)]
set_option maxRecDepth 20000
noncomputable def sp_from:FSpec Tryz.prog:=mkF 54 (.c .s (.c .j .z)) [.str, .bool] (fun x=>(fun (s:By) (a:Int)=>(True,(fromF s a).1,(fromF s a).2,())) x.1 x.2.1) fun ⟨s,a,_⟩ _=>Pure.of_cond (E:=env_from s a) (by kernel_rfl) (g_from_ok s a) (specs_ok rfl [] [] rfl rfl) mixed Tryz.func54
def litF (s:By) (a:Int) (w:By):Int×Int:=
 if a<0∨(s.length:Int)<a then (0,2) else if Lib.hasPrefix (s.drop a.toNat) w then (a+w.length,0) else if Lib.hasPrefix w (s.drop a.toNat) then (0,4) else (0,8)
noncomputable def env_lit (s:By) (a:Int) (w:By):Env where
 P:=Tryz.prog
 ty:=tys0
 specs:=specsOf [sp_from,sp_hasPrefix]
def g_lit_vc (s:By) (a:Int) (w:By):Prop:=
 True/\((!(fromF s a).2)=true->((0:Int),(2:Int),())=((litF s a w).1,(litF s a w).2,()))/\((!(fromF s a).2)=false->True/\(Lib.hasPrefix (fromF s a).1 w=true->(-9223372036854775808<=a+(↑(List.length w):Int)/\a+(↑(List.length w):Int)<=9223372036854775807)/\(a+(↑(List.length w):Int),(0:Int),())=((litF s a w).1,(litF s a w).2,()))/\(Lib.hasPrefix (fromF s a).1 w=false->True/\(Lib.hasPrefix w (fromF s a).1=true->((0:Int),(4:Int),())=((litF s a w).1,(litF s a w).2,()))/\(Lib.hasPrefix w (fromF s a).1=false->((0:Int),(8:Int),())=((litF s a w).1,(litF s a w).2,()))))
theorem g_lit_ok (s:By) (a:Int) (w:By) (h:s.length<=1000000/\w.length<=1000000):g_lit_vc s a w:=by
 obtain ⟨h1,h2⟩:=h;unfold g_lit_vc;by_cases c:a<0∨(s.length:Int)<a
 ·rw [fromF_bad c];refine ⟨trivial,fun _=> ?_,fun d=>(by cases d)⟩;unfold litF;rw [if_pos c]
 ·rw [fromF_good c];unfold litF;rw [if_neg c];refine ⟨trivial,fun d=>(by cases d),fun _=>⟨trivial,fun d=>⟨by omega, ?_⟩,fun d=>⟨trivial,fun e=> ?_,fun e=> ?_⟩⟩⟩
  ·rw [if_pos d]
  ·rw [if_neg (by rw [d];decide),if_pos e]
  ·rw [if_neg (by rw [d];decide),if_neg (by rw [e];decide)]
noncomputable def sp_lit:FSpec Tryz.prog:=mkF 56 (.c .s (.c .j (.c .s .z))) [.int .i64, .int .i64] (fun x=>(fun (s:By) (a:Int) (w:By)=>(s.length<=1000000/\w.length<=1000000,(litF s a w).1,(litF s a w).2,())) x.1 x.2.1 x.2.2.1) fun ⟨s,a,w,_⟩ h=>Pure.of_cond (E:=env_lit s a w) (by kernel_rfl) (g_lit_ok s a w h) (specs_ok rfl _ [] rfl rfl) mixed Tryz.func56
theorem hasPrefix_iff (s p:By):Lib.hasPrefix s p=true↔s.take p.length=p:=by
 unfold Lib.hasPrefix;rw [List.isPrefixOf_iff_prefix,List.prefix_iff_eq_take];exact ⟨fun h=>h.symm,fun h=>h.symm⟩
theorem toNat_next {i:Int} (h:0<=i):(i+1).toNat=i.toNat+1:=by omega
theorem u8_ext {a b:UInt8} (h:(a.toNat:Int)=(b.toNat:Int)):a=b:=UInt8.toNat_inj.1 (by omega)
theorem drop_get (s:By) (a i:Nat):(s.drop a)[i]? =s[a+i]? :=List.getElem?_drop
def lineF (s:By) (a:Int):By×Int×Int:=
 if a<0∨(s.length:Int)<a then ([],0,2) else if (10:UInt8)∈s.drop a.toNat then ((s.drop a.toNat).takeWhile (· ≠10),a+((s.drop a.toNat).takeWhile (· ≠10)).length+1,0) else ([],0,4)
theorem index_one: ∀(s:By),Lib.index s [10]=if (10:UInt8)∈s then ((s.takeWhile (· ≠10)).length:Int) else -1
 |[]=>by simp [Lib.index]
 |c::r=>by
  have ih:=index_one r;unfold Lib.index;rw [ih];by_cases h:c=10
  ·subst h;simp [List.isPrefixOf]
  ·have h': ¬(10:UInt8)=c:=fun k=>h k.symm;by_cases m:(10:UInt8)∈r
   ·simp [List.isPrefixOf,h,h',m]
   ·simp [List.isPrefixOf,h,h',m]
theorem cut_one (s:By):Lib.cut s [10]=if (10:UInt8)∈s then (s.takeWhile (· ≠10),s.drop ((s.takeWhile (· ≠10)).length+1),true) else (s,[],false):=by
 unfold Lib.cut;rw [index_one];by_cases h:(10:UInt8)∈s
 ·rw [if_pos h,if_pos h,if_pos (by omega)];simp only [Int.toNat_natCast,List.length_singleton];congr 1;exact List.prefix_iff_eq_take.1 (List.takeWhile_prefix _)|>.symm
 ·rw [if_neg h,if_neg h,if_neg (by omega)]
theorem lineF_bad {s:By} {a:Int} (h:a<0∨(s.length:Int)<a):lineF s a=([],0,2):=by unfold lineF;rw [if_pos h]
theorem lineF_short {s:By} {a:Int} (h: ¬(a<0∨(s.length:Int)<a)) (n:(10:UInt8)∉s.drop a.toNat):lineF s a=([],0,4):=by unfold lineF;rw [if_neg h,if_neg n]
theorem lineF_ok {s:By} {a:Int} (h: ¬(a<0∨(s.length:Int)<a)) (n:(10:UInt8)∈s.drop a.toNat):lineF s a=((s.drop a.toNat).takeWhile (· ≠10),a+((s.drop a.toNat).takeWhile (· ≠10)).length+1,0):=by unfold lineF;rw [if_neg h,if_pos n]
theorem while_len (s:By) (a:Nat):((s.drop a).takeWhile (· ≠10)).length<=s.length:=by
 have:=(List.takeWhile_prefix (p:=(· ≠(10:UInt8))) (l:=s.drop a)).length_le;rw [List.length_drop] at this;omega
noncomputable def env_line (s:By) (a:Int):Env where
 P:=Tryz.prog
 ty:=tys0
 specs:=specsOf [sp_from,sp_cut]
def g_line_vc (s:By) (a:Int):Prop:=
 True/\((!(fromF s a).2)=true->([],(0:Int),(2:Int),())=((lineF s a).1,(lineF s a).2.1,(lineF s a).2.2,()))/\((!(fromF s a).2)=false->List.length (fromF s a).1<(4294967281:Nat)/\((!(Lib.cut (fromF s a).1 [(10:UInt8)]).2.2)=true->([],(0:Int),(4:Int),())=((lineF s a).1,(lineF s a).2.1,(lineF s a).2.2,()))/\((!(Lib.cut (fromF s a).1 [(10:UInt8)]).2.2)=false->(-9223372036854775808<=a+(↑(Lib.cut (fromF s a).1 [(10:UInt8)]).1.length:Int)/\a+(↑(Lib.cut (fromF s a).1 [(10:UInt8)]).1.length:Int)<=9223372036854775807)/\(-9223372036854775808<=a+(↑(Lib.cut (fromF s a).1 [(10:UInt8)]).1.length:Int)+1/\a+(↑(Lib.cut (fromF s a).1 [(10:UInt8)]).1.length:Int)+1<=9223372036854775807)/\((Lib.cut (fromF s a).1 [(10:UInt8)]).1,a+(↑(Lib.cut (fromF s a).1 [(10:UInt8)]).1.length:Int)+1,(0:Int),())=((lineF s a).1,(lineF s a).2.1,(lineF s a).2.2,())))
theorem g_line_ok (s:By) (a:Int) (h:s.length<=1000000):g_line_vc s a:=by
 unfold g_line_vc;by_cases c:a<0∨(s.length:Int)<a
 ·rw [fromF_bad c,lineF_bad c];exact ⟨trivial,fun _=>rfl,fun d=>(by cases d)⟩
 ·rw [fromF_good c];have hw:=while_len s a.toNat;have hdl:(s.drop a.toNat).length=s.length-a.toNat:=List.length_drop;dsimp only;rw [cut_one];by_cases n:(10:UInt8)∈s.drop a.toNat
  ·rw [if_pos n,lineF_ok c n];exact ⟨trivial,fun d=>(by cases d),fun _=>⟨by omega,fun d=>(by cases d),fun _=>⟨by dsimp only;omega,by dsimp only;omega,rfl⟩⟩⟩
  ·rw [if_neg n,lineF_short c n];exact ⟨trivial,fun d=>(by cases d),fun _=>⟨by omega,fun _=>rfl,fun d=>(by cases d)⟩⟩
noncomputable def sp_line:FSpec Tryz.prog:=mkF 27 (.c .s (.c .j .z)) [.str, .int .i64, .int .i64] (fun x=>(fun (s:By) (a:Int)=>(s.length<=1000000,(lineF s a).1,(lineF s a).2.1,(lineF s a).2.2,())) x.1 x.2.1) fun ⟨s,a,_⟩ h=>Pure.of_cond (E:=env_line s a) (by kernel_rfl) (g_line_ok s a h) (specs_ok rfl _ [] rfl rfl) mixed Tryz.func27
theorem drop_at {s:By} {i:Nat} {c:UInt8} (h:s[i]? =some c):s.drop i=c::s.drop (i+1):=by
 obtain ⟨hi,e⟩:=List.getElem?_eq_some_iff.1 h;rw [List.drop_eq_getElem_cons hi,e]
def isDig (c:UInt8):Bool:=decide (48<=(c.toNat:Int))&&decide ((c.toNat:Int)<=57)
def digAt (s:By) (i:Int):Bool:=((s[i.toNat]?).map isDig).getD false
noncomputable def env_digit (s:By) (i:Int):Env where
 P:=Tryz.prog
 ty:=tys0
def g_digit_vc (s:By) (i:Int):Prop:=
 (0<=i/\i<(↑(List.length s):Int))/\∀(c:UInt8),s[i.toNat]? =some c->(decide ((48:Int)<=(↑c.toNat:Int))=true->(0<=i/\i<(↑(List.length s):Int))/\∀(c:UInt8),s[i.toNat]? =some c->(decide ((↑c.toNat:Int)<=(57:Int)),())=(digAt s i,()))/\(decide ((48:Int)<=(↑c.toNat:Int))= !true->(false,())=(digAt s i,()))
theorem g_digit_ok (s:By) (i:Int) (h:0<=i/\i<s.length):g_digit_vc s i:=by
 unfold g_digit_vc digAt;refine ⟨h,fun c hc=> ?_⟩;rw [hc];simp only [Option.map_some,Option.getD_some,isDig];refine ⟨fun d=>⟨h,fun e he=> ?_⟩,fun d=> ?_⟩
 ·cases he;rw [d];rfl
 ·rw [d];rfl
noncomputable def sp_digit:FSpec Tryz.prog:=mkF 110 (.c .j (.c (.f (.c .s .z)) .z)) [.bool] (fun x=>(fun (s:By) (i:Int)=>(0<=i/\i<s.length,digAt s i,())) x.2.1.1 x.1) fun ⟨i,⟨s,_⟩,_⟩ h=>Pure.of_cond (E:=env_digit s i) (by kernel_rfl) (g_digit_ok s i h) (specs_ok rfl [] [] rfl rfl) mixed Tryz.func110
def runF (s:By):Int:=((s.takeWhile isDig).length:Nat)
noncomputable def env_run (s:By):Env where
 P:=Tryz.prog
 ty:=tys0
 specs:=specsOf [sp_digit]
 heads:=fun
  |3=>some {slots:=[(8, .int .i64),(4, .any)],boxes:=[],keep:=[1],inv:=fun _ (x:Int×Unit×Unit)=>0<=x.1/\x.1<=s.length/\runF s=x.1+runF (s.drop x.1.toNat),measure:=fun _ (x:Int×Unit×Unit)=>(s.length-x.1).toNat}
  |_=>none
def g_run_vc (s:By):Prop:=
 ((some (Obj.box [V.str s])=some (Obj.box [V.str s])/\True)/\0<=(0:Int)/\0<=(↑(List.length s):Int)/\runF s=(0:Int)+runF (List.drop (Int.toNat (0:Int)) s))/\∀(x:Int×Unit×Unit),0<=x.1/\x.1<=(↑(List.length s):Int)/\runF s=x.1+runF (List.drop x.1.toNat s)->(decide (x.1<(↑(List.length s):Int))=true->(0<=x.1/\x.1<(↑(List.length s):Int))/\((!digAt s x.1)=true->(x.1,())=(runF s,()))/\((!digAt s x.1)=false->(-9223372036854775808<=x.1+1/\x.1+1<=9223372036854775807)/\(some (Obj.box [V.str s])=some (Obj.box [V.str s])/\True)/\(0<=x.1+1/\x.1+1<=(↑(List.length s):Int)/\runF s=x.1+1+runF (List.drop (x.1+1).toNat s))/\((↑(List.length s):Int)-(x.1+1)).toNat<((↑(List.length s):Int)-x.1).toNat))/\(decide (x.1<(↑(List.length s):Int))=false->((↑(List.length s):Int),())=(runF s,()))
theorem g_run_eq (s:By):Cond (env_run s) Tryz.f88 [.str s] [.int .i64] (runF s,())=g_run_vc s:=by kernel_rfl
theorem runF_step {s:By} {i:Int} (h0:0<=i) (h:i<s.length) (d:digAt s i=true):runF (s.drop i.toNat)=1+runF (s.drop (i+1).toNat):=by
 have hc:s[i.toNat]? =some s[i.toNat]:=List.getElem?_eq_getElem (by omega);unfold digAt at d;rw [hc] at d;simp only [Option.map_some,Option.getD_some] at d;unfold runF;rw [drop_at hc,toNat_next h0,List.takeWhile_cons,if_pos d,List.length_cons];omega
theorem runF_stop {s:By} {i:Int} (h0:0<=i) (h:i<s.length) (d:digAt s i=false):runF (s.drop i.toNat)=0:=by
 have hc:s[i.toNat]? =some s[i.toNat]:=List.getElem?_eq_getElem (by omega);unfold digAt at d;rw [hc] at d;simp only [Option.map_some,Option.getD_some] at d;unfold runF;rw [drop_at hc,List.takeWhile_cons,if_neg (by rw [d];decide)];rfl
theorem g_run_ok (s:By) (h:s.length<=1000000):g_run_vc s:=by
 unfold g_run_vc;simp only [decide_eq_true_eq,decide_eq_false_iff_not,Bool.not_eq_true',Bool.not_eq_false'];refine ⟨⟨⟨by trivial,by trivial⟩,by omega,by omega,by simp⟩,fun x hx=>⟨fun c=>⟨by omega,fun d=> ?_,fun d=>⟨by omega,⟨by trivial,by trivial⟩,⟨by omega,by omega, ?_⟩,by omega⟩⟩,fun c=> ?_⟩⟩
 ·rw [hx.2.2,runF_stop hx.1 c d,Int.add_zero]
 ·rw [hx.2.2,runF_step hx.1 c d];omega
 ·rw [hx.2.2,List.drop_of_length_le (by omega)];have e:x.1=s.length:=by omega
  rw [e];simp [runF]
theorem run_pure (s:By) (h:s.length<=1000000):Pure Tryz.prog 88 [.str s] (.int .i64 (runF s)):=
 by have k:=Pure.of_cond (g_run_eq s) (g_run_ok s h) (specs_ok rfl [sp_digit] [] rfl rfl) mixed Tryz.func88;exact k
noncomputable def q_run (s:By):Prop×V:=(s.length<=1000000,(.int .i64 (runF s)))
noncomputable def sp_run:FSpec Tryz.prog where
 f:=88
 run:=fun
  |[.str s]=>some (q_run s)
  |_=>none
 ok:=fun args pre r h hp=>by
  split at h
  ·rename_i s;exact of_q h hp fun h=>(run_pure s h).weak (.cons (.refl _) .nil)
  ·cases h
def toB (d:Int):UInt8:=UInt8.ofNat (48+d).toNat
def textL (l:List Int):By:=(l.map toB).reverse
def padL (l:List Int):List Int:=if l=[] then [0] else l
noncomputable def env_text (s:Bool) (l:List Int) (d:Int):Env where
 P:=Tryz.prog
 ty:=tys0
 heads:=fun
  |2=>some {slots:=[(5, .list .part I)],boxes:=[],keep:=[2],inv:=fun _ (x:List Int×Unit)=>x.1=l∨(l=[]/\x.1=[0]),measure:=fun _ (x:List Int×Unit)=>1-x.1.length}
  |6=>some {slots:=[(7, .int .i64),(6, .str)],boxes:=[],keep:=[2],inv:=fun _ (x:Int×By×Unit)=>0<=x.1/\x.1<=(padL l).length/\x.2.1=textL ((padL l).take x.1.toNat),measure:=fun _ (x:Int×By×Unit)=>((padL l).length-x.1).toNat}
  |_=>none
def g_text_vc (s:Bool) (l:List Int) (d:Int):Prop:=
 ((some (Obj.box [V.bool s,V.list LK.part I l])=some (Obj.box [V.bool s,V.list LK.part I l])/\True)/\(l=l∨l=[]/\l=[(0:Int)]))/\∀(x:List Int×Unit),x.1=l∨l=[]/\x.1=[(0:Int)]->(decide ((↑x.1.length:Int)<=d)=true->(((0:Nat)+x.1.length)*(8:Nat)<=(140737488355328:Nat)/\(0:Nat)+x.1.length<=(4611686018427387904:Nat)/\((0:Nat)<x.1.length∨(0:Nat)=(0:Nat)))/\((x.1.length+(1:Nat))*(8:Nat)<=(140737488355328:Nat)/\x.1.length+(1:Nat)<=(4611686018427387904:Nat))/\(some (Obj.box [V.bool s,V.list LK.part I l])=some (Obj.box [V.bool s,V.list LK.part I l])/\True)/\(x.1++[(0:Int)]=l∨l=[]/\x.1++[(0:Int)]=[(0:Int)])/\(1:Nat)-(x.1++[(0:Int)]).length<(1:Nat)-x.1.length)/\(decide ((↑x.1.length:Int)<=d)=false->((some (Obj.box [V.bool s,V.list LK.part I l])=some (Obj.box [V.bool s,V.list LK.part I l])/\True)/\0<=(0:Int)/\0<=(↑(padL l).length:Int)/\[]=textL (List.take (Int.toNat (0:Int)) (padL l)))/\∀(x_1:Int×List UInt8×Unit),0<=x_1.1/\x_1.1<=(↑(padL l).length:Int)/\x_1.2.1=textL (List.take x_1.1.toNat (padL l))->(decide (x_1.1<(↑x.1.length:Int))=true->(decide (x_1.1=d)=true->(decide ((0:Int)<d)=true->(1:Nat)+x_1.2.1.length<=(9223372036854775807:Nat)/\(0<=x_1.1/\x_1.1<(↑x.1.length:Int))/\∀(x_2:Int),x.1[x_1.1.toNat]? =some x_2->(-9223372036854775808<=(48:Int)+x_2/\(48:Int)+x_2<=9223372036854775807)/\(0<=(48:Int)+x_2/\(48:Int)+x_2<=(255:Int))/\(List.map (fun n=>UInt8.ofNat (Int.toNat n)) [(48:Int)+x_2]).length+([(46:UInt8)]++x_1.2.1).length<=(9223372036854775807:Nat)/\(-9223372036854775808<=x_1.1+1/\x_1.1+1<=9223372036854775807)/\(some (Obj.box [V.bool s,V.list LK.part I l])=some (Obj.box [V.bool s,V.list LK.part I l])/\True)/\(0<=x_1.1+1/\x_1.1+1<=(↑(padL l).length:Int)/\List.map (fun n=>UInt8.ofNat (Int.toNat n)) [(48:Int)+x_2]++([(46:UInt8)]++x_1.2.1)=textL (List.take (x_1.1+1).toNat (padL l)))/\((↑(padL l).length:Int)-(x_1.1+1)).toNat<((↑(padL l).length:Int)-x_1.1).toNat)/\(decide ((0:Int)<d)=false->(0<=x_1.1/\x_1.1<(↑x.1.length:Int))/\∀(x_2:Int),x.1[x_1.1.toNat]? =some x_2->(-9223372036854775808<=(48:Int)+x_2/\(48:Int)+x_2<=9223372036854775807)/\(0<=(48:Int)+x_2/\(48:Int)+x_2<=(255:Int))/\(List.map (fun n=>UInt8.ofNat (Int.toNat n)) [(48:Int)+x_2]).length+x_1.2.1.length<=(9223372036854775807:Nat)/\(-9223372036854775808<=x_1.1+1/\x_1.1+1<=9223372036854775807)/\(some (Obj.box [V.bool s,V.list LK.part I l])=some (Obj.box [V.bool s,V.list LK.part I l])/\True)/\(0<=x_1.1+1/\x_1.1+1<=(↑(padL l).length:Int)/\List.map (fun n=>UInt8.ofNat (Int.toNat n)) [(48:Int)+x_2]++x_1.2.1=textL (List.take (x_1.1+1).toNat (padL l)))/\((↑(padL l).length:Int)-(x_1.1+1)).toNat<((↑(padL l).length:Int)-x_1.1).toNat))/\(decide (x_1.1=d)= !true->(0<=x_1.1/\x_1.1<(↑x.1.length:Int))/\∀(x_2:Int),x.1[x_1.1.toNat]? =some x_2->(-9223372036854775808<=(48:Int)+x_2/\(48:Int)+x_2<=9223372036854775807)/\(0<=(48:Int)+x_2/\(48:Int)+x_2<=(255:Int))/\(List.map (fun n=>UInt8.ofNat (Int.toNat n)) [(48:Int)+x_2]).length+x_1.2.1.length<=(9223372036854775807:Nat)/\(-9223372036854775808<=x_1.1+1/\x_1.1+1<=9223372036854775807)/\(some (Obj.box [V.bool s,V.list LK.part I l])=some (Obj.box [V.bool s,V.list LK.part I l])/\True)/\(0<=x_1.1+1/\x_1.1+1<=(↑(padL l).length:Int)/\List.map (fun n=>UInt8.ofNat (Int.toNat n)) [(48:Int)+x_2]++x_1.2.1=textL (List.take (x_1.1+1).toNat (padL l)))/\((↑(padL l).length:Int)-(x_1.1+1)).toNat<((↑(padL l).length:Int)-x_1.1).toNat))/\(decide (x_1.1<(↑x.1.length:Int))=false->(s=true->(1:Nat)+x_1.2.1.length<=(9223372036854775807:Nat)/\([(45:UInt8)]++x_1.2.1,())=(Lib.itoa (big s l),()))/\(s=false->(x_1.2.1,())=(Lib.itoa (big s l),()))))
theorem textL_step {l:List Int} {i:Nat} {d:Int} (h:l[i]? =some d):textL (l.take (i+1))=[UInt8.ofNat (48+d).toNat]++textL (l.take i):=by
 unfold textL;rw [List.take_add_one,h];simp [toB]
theorem text_digs (n:Nat):textL (padL (digs n))=Lib.decDigits n:=by
 induction n using Nat.strongRecOn with
 |_ n ih=>
  by_cases h0:n=0
  ·subst h0;rw [digs_zero,Lib.decDigits,dif_pos (by omega)];rfl
  ·have hne:digs n≠[]:=fun c=>h0 (digs_nil.1 c);have hp:padL (digs n)=digs n:=by unfold padL;rw [if_neg hne]
   rw [hp,digs_pos h0];by_cases h:n<10
   ·have e:n/10=0:=by omega
    rw [Lib.decDigits,dif_pos h,e,digs_zero,Nat.mod_eq_of_lt h];simp only [textL,toB,List.map_cons,List.map_nil,List.reverse_cons,List.reverse_nil,List.nil_append];congr 2
   ·rw [Lib.decDigits,dif_neg h,<-ih (n/10) (by omega)];have hne2:digs (n/10)≠[]:=fun c=>by have:=digs_nil.1 c;omega
    have hp2:padL (digs (n/10))=digs (n/10):=by unfold padL;rw [if_neg hne2]
    rw [hp2];simp only [textL,toB,List.map_cons,List.reverse_cons];congr 2
theorem itoa_text {s:Bool} {l:List Int} (h:Big s l):Lib.itoa (big s l)=if s then 45::textL (padL l) else textL (padL l):=by
 have hl:digs (big s l).natAbs=l:=big_abs h;have hs:=big_neg h;unfold Lib.itoa;cases s with
 |true=>
  have hneg:big true l<0:=by simpa using hs
  rw [if_pos hneg,if_pos rfl,<-text_digs,hl]
 |false=>
  have hneg: ¬big false l<0:=by simpa using hs
  have e:(big false l).toNat=(big false l).natAbs:=by omega
  rw [if_neg hneg,if_neg (by decide),e,<-text_digs,hl]
theorem pad_dig {l:List Int} (h:Dig l):Dig (padL l):=by
 unfold padL;split
 ·intro d hd;simp only [List.mem_singleton] at hd;omega
 ·exact h
theorem g_text_ok (s:Bool) (l:List Int) (d:Int) (h:d=0/\Big s l/\l.length<=1000000):g_text_vc s l d:=by
 obtain ⟨rfl,hb,hl⟩:=h;have hit:=itoa_text hb;have hpd:=pad_dig hb.1.dig;have hpl:(padL l).length<=1000001:=by
  unfold padL;split
  ·simp
  ·omega
 unfold g_text_vc;refine ⟨⟨⟨by trivial,by trivial⟩, .inl rfl⟩,fun x hx=> ?_⟩;simp only [decide_eq_true_eq,decide_eq_false_iff_not,Bool.not_true];have hxl:x.1.length<=1000001:=by
  rcases hx with h|⟨_,h⟩
  ·rw [h];omega
  ·rw [h];simp
 refine ⟨fun c=> ?_,fun c=> ?_⟩
 ·have hx0:x.1=[]:=List.eq_nil_of_length_eq_zero (by omega);have hl0:l=[]:=by
   rcases hx with h|⟨h,_⟩
   ·rw [<-h,hx0]
   ·exact h
  rw [hx0];refine ⟨⟨by simp,by simp, .inr (by trivial)⟩,⟨by simp,by simp⟩,⟨by trivial,by trivial⟩, .inr ⟨hl0,rfl⟩,by simp⟩
 ·have hxp:x.1=padL l:=by
   unfold padL;rcases hx with h|⟨h1,h2⟩
   ·rw [if_neg (fun k=>c (by rw [h,k];exact Int.le_refl _)),h]
   ·rw [if_pos h1,h2]
  rw [hxp];refine ⟨⟨⟨by trivial,by trivial⟩,by omega,by omega,rfl⟩,fun y hy=> ?_⟩;have hyl:y.2.1.length<=1000001:=by
   rw [hy.2.2];unfold textL;rw [List.length_reverse,List.length_map,List.length_take];omega
  refine ⟨fun d=>⟨fun e=>⟨fun f=>absurd f (by omega),fun _=>⟨by omega,fun z hz=> ?_⟩⟩,fun e=>⟨by omega,fun z hz=> ?_⟩⟩,fun d=>⟨fun e=>⟨by omega, ?_⟩,fun e=> ?_⟩⟩
  ·have:=dig_get hpd hz;refine ⟨by omega,by omega,by simp;omega,by omega,⟨by trivial,by trivial⟩,⟨by omega,by omega, ?_⟩,by omega⟩;rw [toNat_next hy.1,textL_step hz,hy.2.2];rfl
  ·have:=dig_get hpd hz;refine ⟨by omega,by omega,by simp;omega,by omega,⟨by trivial,by trivial⟩,⟨by omega,by omega, ?_⟩,by omega⟩;rw [toNat_next hy.1,textL_step hz,hy.2.2];rfl
  ·subst e;rw [hit,hy.2.2,List.take_of_length_le (by omega)];rfl
  ·subst e;rw [hit,hy.2.2,List.take_of_length_le (by omega)];rfl
noncomputable def sp_text:FSpec Tryz.prog:=mkF 49 (.c (.g (.c .b (.c (.p I) .z))) (.c .j .z)) [.str] (fun x=>(fun (s:Bool) (l:List Int) (d:Int)=>(d=0/\Big s l/\l.length<=1000000,Lib.itoa (big s l),())) x.1.1 x.1.2.1 x.2.1) fun ⟨⟨s,l,_⟩,d,_⟩ h=>Pure.of_cond (E:=env_text s l d) (by kernel_rfl) (g_text_ok s l d h) (specs_ok rfl [] [] rfl rfl) mixed Tryz.func49
noncomputable def env_digitsOf (n:Int):Env where
 P:=Tryz.prog
 ty:=tys0
 specs:=specsOf [sp_itoa]
def g_digitsOf_vc (n:Int):Prop:=
 InI n/\(Lib.itoa n,())=(Lib.itoa n,())
theorem g_digitsOf_eq (n:Int):Cond (env_digitsOf n) Tryz.f21 [.int .i64 n] [.str] (Lib.itoa n,())=g_digitsOf_vc n:=by kernel_rfl
theorem g_digitsOf_ok (n:Int) (h:InI n):g_digitsOf_vc n:=by
 exact ⟨h,rfl⟩
theorem digitsOf_pure (n:Int) (h:InI n):Pure Tryz.prog 21 [.int .i64 n] (.str (Lib.itoa n)):=
 by have k:=Pure.of_cond (g_digitsOf_eq n) (g_digitsOf_ok n h) (specs_ok rfl [sp_itoa] [] rfl rfl) mixed Tryz.func21;exact k
noncomputable def q_digitsOf (n:Int):Prop×V:=(InI n,(.str (Lib.itoa n)))
noncomputable def sp_digitsOf:FSpec Tryz.prog where
 f:=21
 run:=fun
  |[.int .i64 n]=>some (q_digitsOf n)
  |_=>none
 ok:=fun args pre r h hp=>by
  split at h
  ·rename_i n;exact of_q h hp fun h=>(digitsOf_pure n h).weak (.cons (.refl _) .nil)
  ·cases h
theorem digI_len {n:Int} (h:InI n):(digs n.natAbs).length<=30:=by
 obtain ⟨h1,h2⟩:=h;exact digs_len (k:=30) (by omega)
noncomputable def env_rdigitsOf (n:Int):Env where
 P:=Tryz.prog
 ty:=tys0
 specs:=specsOf [sp_of,sp_text]
 frz:=fun|4=>true|_=>false
def g_rdigitsOf_vc (n:Int):Prop:=
 InI n/\((0:Int)=(0:Int)/\Big (decide (n<(0:Int))) (digs n.natAbs)/\(digs n.natAbs).length<=(1000000:Nat))/\(Lib.itoa (big (decide (n<(0:Int))) (digs n.natAbs)),())=(Lib.itoa n,())
theorem g_rdigitsOf_ok (n:Int) (h:InI n):g_rdigitsOf_vc n:=by
 have hl:=digI_len h;refine ⟨h,⟨by trivial,Big_digs n,by omega⟩, ?_⟩;rw [big_digs]
noncomputable def sp_rdigitsOf:FSpec Tryz.prog:=mkF 25 (.c .j .z) [.str] (fun x=>(fun (n:Int)=>(InI n,Lib.itoa n,())) x.1) fun ⟨n,_⟩ h=>Pure.of_cond (E:=env_rdigitsOf n) (by kernel_rfl) (g_rdigitsOf_ok n h) (specs_ok rfl _ [] rfl rfl) mixed Tryz.func25
end Go.Proofs.YtabicbgeoiilmaaGreatDoor
end
section
namespace Go.Proofs.YtabicbgeoiilmaaGreatDoor
open Go.Vm
set_option maxRecDepth 20000
end Go.Proofs.YtabicbgeoiilmaaGreatDoor
end
section
namespace Go.Proofs.YtabicbgeoiilmaaGreatDoor
open Go.Vm
def pzStep (n:Int) (c:UInt8):Int:=if isDig c then n*10+((c.toNat:Int)-48) else n
def pz (s:By):Int:=s.foldl pzStep 0
def pzs (s:By):Int:=if s.head? =some 45 then 0-pz s else pz s
def AllD (D:By):Prop:= ∀c∈D,isDig c=true
theorem isDig_iff {c:UInt8}:isDig c=true↔48<=c.toNat/\c.toNat<=57:=by
 simp only [isDig,Bool.and_eq_true,decide_eq_true_eq];omega
theorem pz_snoc (s:By) (c:UInt8):pz (s++[c])=pzStep (pz s) c:=by simp [pz]
theorem fold_bound: ∀(s:By) (n:Int) (k:Nat),0<=n->n<10 ^ k->n<=s.foldl pzStep n/\s.foldl pzStep n<10 ^ (k+s.length)
 |[],n,k,h0,h1=>⟨Int.le_refl _,h1⟩
 |c::r,n,k,h0,h1=>by
  have e:(10:Int) ^ (k+1)=10 ^ k*10:=Int.pow_succ ..;have h2:n<=pzStep n c/\pzStep n c<10 ^ (k+1):=by
   unfold pzStep;split
   ·rename_i hd;have:=isDig_iff.1 hd;omega
   ·omega
  obtain ⟨k1,k2⟩:=fold_bound r (pzStep n c) (k+1) (by omega) h2.2;rw [List.foldl_cons,List.length_cons];refine ⟨by omega, ?_⟩;rw [show k+(r.length+1)=k+1+r.length by omega];exact k2
theorem pz_bound (s:By):0<=pz s/\pz s<10 ^ s.length:=by
 have:=fold_bound s 0 0 (by omega) (by omega);rw [Nat.zero_add] at this;exact this
theorem pz_neg (D:By):pz (45::D)=pz D:=by
 unfold pz;rw [List.foldl_cons];rfl
theorem head_app {l m:By} (h:l≠[]):(l++m).head? =l.head? :=by
 cases l with
 |nil=>exact absurd rfl h
 |cons x r=>rfl
theorem dec_ne (n:Nat):Lib.decDigits n≠[]:=by
 intro c;have h1:=Lib.decDigits_length n;have h2:=Lib.nDigits_pos n;rw [c] at h1;simp at h1;omega
theorem dec_head {n:Nat} (h:0<n):(Lib.decDigits n).head? ≠some 48:=by
 induction n using Nat.strongRecOn with
 |_ n ih=>
  by_cases h10:n<10
  ·rw [Lib.decDigits,dif_pos h10];simp only [List.head?_cons,ne_eq,Option.some.injEq];intro c;have:=congrArg UInt8.toNat c;rw [UInt8.toNat_ofNat'] at this;have e:(48:UInt8).toNat=48:=rfl;omega
  ·rw [Lib.decDigits,dif_neg h10];rw [head_app (dec_ne _)];exact ih (n/10) (by omega) (by omega)
theorem dec_of: ∀(n:Nat) (D:By),D.length=n->D≠[]->AllD D->(D.head? ≠some 48∨D.length=1)->Lib.decDigits (pz D).toNat=D:=by
 intro n;induction n with
 |zero=>intro D h1 h2;exact absurd (List.eq_nil_of_length_eq_zero h1) h2
 |succ n ih=>
  intro D hlen hne hD hc;obtain ⟨D',c,rfl⟩: ∃D' c,D=D'++[c]:=⟨D.dropLast,D.getLast hne,(List.dropLast_concat_getLast hne).symm⟩
  have hcd:=isDig_iff.1 (hD c (by simp));have hpc:pz (D'++[c])=pz D'*10+((c.toNat:Int)-48):=by
   rw [pz_snoc];unfold pzStep;rw [if_pos (isDig_iff.2 hcd)]
  have p0:=(pz_bound D').1;have ec: ∀m:Nat,m=c.toNat-48->UInt8.ofNat (48+m)=c:=by
   intro m hm;rw [hm,show 48+(c.toNat-48)=c.toNat by omega];exact UInt8.ofNat_toNat
  by_cases h':D'=[]
  ·subst h';have e:pz ([]++[c])=(c.toNat:Int)-48:=by rw [hpc];simp [pz]
   rw [e,Lib.decDigits,dif_pos (by omega)];simp only [List.nil_append];rw [ec _ (by omega)]
  ·have hh:D'.head? ≠some 48:=by
    rcases hc with h|h
    ·rw [head_app h'] at h;exact h
    ·have:D'.length≠0:=fun k=>h' (List.eq_nil_of_length_eq_zero k);simp at h;exact absurd h h'
   have hi:=ih D' (by simpa using hlen) h' (fun x hx=>hD x (by simp [hx])) (.inl hh);have p1:1<=pz D':=by
    by_cases k:pz D'=0
    ·rw [k] at hi;have:Lib.decDigits (Int.toNat 0)=[48]:=by
      rw [Lib.decDigits,dif_pos (by decide)];rfl
     rw [this] at hi;rw [<-hi] at hh;exact absurd rfl hh
    ·omega
   rw [hpc,Lib.decDigits,dif_neg (by omega)];have e1:(pz D'*10+((c.toNat:Int)-48)).toNat/10=(pz D').toNat:=by omega
   rw [e1,hi,ec _ (by omega)]
theorem dec_iff {D:By} (hne:D≠[]) (hD:AllD D):Lib.decDigits (pz D).toNat=D↔(D.head? ≠some 48∨D.length=1):=by
 refine ⟨fun h=> ?_,dec_of _ D rfl hne hD⟩;by_cases k:(pz D).toNat=0
 ·right;rw [k] at h;have:Lib.decDigits 0=[48]:=by
   rw [Lib.decDigits,dif_pos (by decide)];rfl
  rw [this] at h;rw [<-h];rfl
 ·left;rw [<-h];exact dec_head (by omega)
theorem mag_law: ∀(D:By) (acc:Nat),AllD D->acc<18446744073709551616->Lib.parseUint10 acc D=if D.foldl pzStep (acc:Int)<18446744073709551616 then .ok (D.foldl pzStep (acc:Int)).toNat else .range
 |[],acc,_,h=>by
  unfold Lib.parseUint10;rw [List.foldl_nil,if_pos (by omega)];simp
 |c::r,acc,hD,h=>by
  have hd:=hD c (by simp);have hcd:=isDig_iff.1 hd;have hr:AllD r:=fun x hx=>hD x (by simp [hx]);have he:pzStep (acc:Int) c=((acc*10+(c.toNat-48):Nat):Int):=by
   unfold pzStep;rw [if_pos hd];omega
  have hge:((acc*10+(c.toNat-48):Nat):Int)<=r.foldl pzStep ((acc*10+(c.toNat-48):Nat):Int):=by
   have: ∀(l:By) (n:Int),0<=n->n<=l.foldl pzStep n:=by
    intro l;induction l with
    |nil=>intro n _;exact Int.le_refl _
    |cons x l ih=>
     intro n hn;have h2:n<=pzStep n x:=by
      unfold pzStep;split
      ·rename_i hx;have:=isDig_iff.1 hx;omega
      ·omega
     exact Int.le_trans h2 (ih _ (by omega))
   exact this r _ (by omega)
  rw [List.foldl_cons,he];unfold Lib.parseUint10;rw [if_pos hcd];by_cases h1:1844674407370955162<=acc
  ·rw [if_pos h1,if_neg (by omega)]
  ·rw [if_neg h1];by_cases h2:18446744073709551616<=acc*10+(c.toNat-48)
   ·rw [if_pos h2,if_neg (by omega)]
   ·rw [if_neg h2];exact mag_law r _ hr (by omega)
theorem mag_all {D:By} (hne:D≠[]) (hD:AllD D):Lib.parseMag D=if pz D<18446744073709551616 then .ok (pz D).toNat else .range:=by
 unfold Lib.parseMag;rw [if_neg hne,mag_law D 0 hD (by decide)];rfl
theorem head_dig {D:By} (hD:AllD D):D.head? ≠some 45:=by
 cases D with
 |nil=>simp
 |cons c r=>
  have:=isDig_iff.1 (hD c (by simp));simp only [List.head?_cons,ne_eq,Option.some.injEq];intro k;rw [k] at this;exact absurd this (by decide)
def Numl (t D:By):Prop:=D≠[]/\AllD D/\(t=D∨t=45::D)
theorem atoi_law {t D:By} (h:Numl t D):Lib.atoiAll t=if -9223372036854775808<=pzs t/\pzs t<=9223372036854775807 then .ok (pzs t) else .range:=by
 obtain ⟨hne,hD,ht⟩:=h;have p0:=(pz_bound D).1;rcases ht with rfl|rfl
 ·have hp:pzs t=pz t:=by unfold pzs;rw [if_neg (head_dig hD)]
  rw [hp];cases t with
  |nil=>exact absurd rfl hne
  |cons c r=>
   have hcd:=isDig_iff.1 (hD c (by simp));unfold Lib.atoiAll;simp only;rw [if_neg (by omega),mag_all hne hD];by_cases h1:pz (c::r)<18446744073709551616
   ·rw [if_pos h1];simp only;by_cases h2:pz (c::r)<=9223372036854775807
    ·rw [if_neg (by omega),if_neg (by omega),if_neg (by omega),if_pos (by omega)];congr 1;omega
    ·rw [if_pos (by omega),if_neg (by omega)]
   ·rw [if_neg h1,if_neg (by omega)]
 ·have hp:pzs (45::D)=0-pz D:=by
   unfold pzs;rw [if_pos (show (45::D:By).head? =some 45 from rfl),pz_neg]
  rw [hp];unfold Lib.atoiAll;have e45:(45:UInt8).toNat=45:=rfl;simp only [e45,or_true,if_true,not_true_eq_false,false_and,if_false,true_and];rw [mag_all hne hD];by_cases h1:pz D<18446744073709551616
  ·rw [if_pos h1];simp only;by_cases h2:pz D<=9223372036854775808
   ·rw [if_neg (by omega),if_pos (by omega)];congr 1;omega
   ·rw [if_pos (by omega),if_neg (by omega)]
  ·rw [if_neg h1,if_neg (by omega)]
theorem itoa_law {t D:By} (h:Numl t D):Lib.itoa (pzs t)=t↔¬(D.head? =some 48/\(D.length≠1∨t=45::D)):=by
 obtain ⟨hne,hD,ht⟩:=h;have p0:=(pz_bound D).1;have hnt:D≠45::D:=fun k=>by have:=congrArg List.length k;simp at this
 rcases ht with rfl|rfl
 ·have hp:pzs t=pz t:=by unfold pzs;rw [if_neg (head_dig hD)]
  rw [hp];unfold Lib.itoa;rw [if_neg (by omega),dec_iff hne hD];constructor
  ·rintro (k|k) ⟨k1,k2⟩
   ·exact k k1
   ·exact k2.elim (fun q=>q k) (fun q=>hnt q)
  ·intro k;by_cases k1:t.head? =some 48
   ·right;exact Classical.byContradiction fun q=>k ⟨k1, .inl q⟩
   ·exact .inl k1
 ·have hp:pzs (45::D)=0-pz D:=by
   unfold pzs;rw [if_pos (show (45::D:By).head? =some 45 from rfl),pz_neg]
  rw [hp];unfold Lib.itoa;by_cases z:pz D=0
  ·rw [if_neg (by omega)];have e:Lib.decDigits (0-pz D).toNat=[48]:=by
    rw [z,Lib.decDigits,dif_pos (by decide)];rfl
   rw [e];constructor
   ·intro k;exact absurd (List.cons.inj k).1 (by decide)
   ·intro k;exfalso;refine k ⟨?_, .inr rfl⟩;exact Classical.byContradiction fun q=>by
     have:=dec_of _ D rfl hne hD (.inl q);rw [z,Lib.decDigits,dif_pos (by decide)] at this;rw [<-this] at q;exact q rfl
  ·rw [if_pos (by omega)];have e:(0-pz D).natAbs=(pz D).toNat:=by omega
   rw [e];constructor
   ·intro k;have k':=(List.cons.inj k).2;rintro ⟨k1,_⟩;have:=dec_head (n:=(pz D).toNat) (by omega);rw [k'] at this;exact this k1
   ·intro k;have k1:D.head? ≠some 48:=fun q=>k ⟨q, .inr rfl⟩;rw [dec_of _ D rfl hne hD (.inl k1)]
theorem pre_minus (r:By):Lib.hasPrefix r [45]=true↔r.head? =some 45:=by
 unfold Lib.hasPrefix;cases r with
 |nil=>simp [List.isPrefixOf]
 |cons c r=>
  simp only [List.isPrefixOf,List.head?_cons,Option.some.injEq,Bool.and_true,beq_iff_eq];exact eq_comm
theorem trim_minus (r:By):Lib.trimPrefix r [45]=if r.head? =some 45 then r.drop 1 else r:=by
 unfold Lib.trimPrefix;by_cases h:r.head? =some 45
 ·rw [if_pos ((pre_minus r).2 h),if_pos h];rfl
 ·rw [if_neg (fun k=>h ((pre_minus r).1 k)),if_neg h]
def dOf (r:By):By:=(Lib.trimPrefix r [45]).takeWhile isDig
def wideF (r:By):Int:=r.length-(Lib.trimPrefix r [45]).length+runF (Lib.trimPrefix r [45])
theorem dOf_len (r:By):((dOf r).length:Int)=runF (Lib.trimPrefix r [45]):=rfl
theorem dOf_all (r:By):AllD (dOf r):=fun c hc=>by
 have:=List.all_takeWhile (p:=isDig) (l:=Lib.trimPrefix r [45]);exact List.all_eq_true.1 this c hc
theorem dOf_take (r:By):dOf r=(Lib.trimPrefix r [45]).take (dOf r).length:=List.prefix_iff_eq_take.1 (List.takeWhile_prefix _)
theorem dOf_head {r:By} (h:runF (Lib.trimPrefix r [45])≠0):(dOf r).head? =(Lib.trimPrefix r [45]).head? :=by
 have hl:=dOf_len r;have ht:=dOf_take r;generalize Lib.trimPrefix r [45]=b at*;cases b with
 |nil=>rw [ht];simp
 |cons c q=>
  rw [ht];obtain ⟨k,hk⟩: ∃k,(dOf r).length=k+1:=⟨(dOf r).length-1,by omega⟩
  rw [hk];rfl
theorem wide_num {r:By} (h:runF (Lib.trimPrefix r [45])≠0):Numl (r.take (wideF r).toNat) (dOf r)/\(r.take (wideF r).toNat=45::dOf r↔Lib.hasPrefix r [45]=true)/\0<=wideF r/\wideF r<=r.length:=by
 have hl:=dOf_len r;have ht:=dOf_take r;have hlt:(dOf r).length<=(Lib.trimPrefix r [45]).length:=(List.takeWhile_prefix isDig).length_le;have hne:dOf r≠[]:=fun k=>h (by rw [<-hl,k];rfl);have hnt:dOf r≠45::dOf r:=fun k=>by have:=congrArg List.length k;simp at this
 by_cases hm:r.head? =some 45
 ·have hb:Lib.trimPrefix r [45]=r.drop 1:=by rw [trim_minus,if_pos hm]
  cases r with
  |nil=>simp at hm
  |cons c q=>
   have hc:c=45:=by simpa using hm
   subst hc;have hbq:Lib.trimPrefix (45::q) [45]=q:=hb;have hw:wideF (45::q)=(dOf (45::q)).length+1:=by
    unfold wideF;rw [<-hl,hbq,List.length_cons];omega
   have e:(45::q).take (wideF (45::q)).toNat=45::dOf (45::q):=by
    rw [hw,show (((dOf (45::q)).length:Int)+1).toNat=(dOf (45::q)).length+1 by omega,List.take_succ_cons];congr 1;rw [hbq] at ht;exact ht.symm
   rw [hbq] at hlt;refine ⟨⟨hne,dOf_all _, .inr e⟩,⟨fun _=>(pre_minus _).2 rfl,fun _=>e⟩,by omega,by rw [hw,List.length_cons];omega⟩
 ·have hb:Lib.trimPrefix r [45]=r:=by rw [trim_minus,if_neg hm]
  have hw:wideF r=(dOf r).length:=by
   unfold wideF;rw [<-hl,hb];omega
  have e:r.take (wideF r).toNat=dOf r:=by
   rw [hw,Int.toNat_natCast];rw [hb] at ht;exact ht.symm
  rw [hb] at hlt;exact ⟨⟨hne,dOf_all _, .inl e⟩,⟨fun k=>absurd (e.symm.trans k) hnt,fun k=>absurd ((pre_minus r).1 k) hm⟩,by omega,by omega⟩
theorem wide_canon {r:By} (h:runF (Lib.trimPrefix r [45])≠0):Lib.itoa (pzs (r.take (wideF r).toNat))=r.take (wideF r).toNat↔
 ¬((Lib.trimPrefix r [45]).head? =some 48/\(1<runF (Lib.trimPrefix r [45])∨Lib.hasPrefix r [45]=true)):=by
 obtain ⟨h1,h2,_⟩:=wide_num h;have hl:=dOf_len r;have hpos:0<=runF (Lib.trimPrefix r [45]):=by unfold runF;omega
 rw [itoa_law h1,dOf_head h,h2];have:(dOf r).length≠1↔1<runF (Lib.trimPrefix r [45]):=by omega
 rw [this]
end Go.Proofs.YtabicbgeoiilmaaGreatDoor
end
section
namespace Go.Proofs.YtabicbgeoiilmaaGreatDoor
open Go.Vm
def mayF (d:Int):Bool:=decide (0<=d)&&decide (d<=6)
noncomputable def env_may (d:Int):Env where
 P:=Tryz.prog
 ty:=tys0
def g_may_vc (d:Int):Prop:=
 (decide (0<=d)=true->(decide (d<=(6:Int)),())=(mayF d,()))/\(decide (0<=d)= !true->(false,())=(mayF d,()))
theorem g_may_ok (d:Int):g_may_vc d:=by
 unfold g_may_vc mayF;refine ⟨fun h=> ?_,fun h=> ?_⟩
 ·rw [h];rfl
 ·rw [h];rfl
set_option maxRecDepth 20000
noncomputable def sp_may:FSpec Tryz.prog:=mkF 113 (.c .j .z) [.bool] (fun x=>(fun (d:Int)=>(True,mayF d,())) x.1) fun ⟨d,_⟩ _=>Pure.of_cond (E:=env_may d) (by kernel_rfl) (g_may_ok d) (specs_ok rfl [] [] rfl rfl) mixed Tryz.func113
def inR (z lo hi:Int):Bool:=decide (-9223372036854775808<=z/\z<=9223372036854775807/\lo<=z/\z<=hi)
def numF (s:By) (a lo hi:Int):Int×Int×Int:=
 if a<0∨(s.length:Int)<a then (0,0,2) else if Lib.trimPrefix (s.drop a.toNat) [45]=[] then (0,0,4) else
  if runF (Lib.trimPrefix (s.drop a.toNat) [45])=0∨((Lib.trimPrefix (s.drop a.toNat) [45]).head? =some 48/\(1<runF (Lib.trimPrefix (s.drop a.toNat) [45])∨Lib.hasPrefix (s.drop a.toNat) [45]=true)) then (0,0,5) else
   if inR (pzs ((s.drop a.toNat).take (wideF (s.drop a.toNat)).toNat)) lo hi then (pzs ((s.drop a.toNat).take (wideF (s.drop a.toNat)).toNat),a+wideF (s.drop a.toNat),0) else (0,0,7)
noncomputable def env_num (s:By) (a lo hi:Int):Env where
 P:=Tryz.prog
 ty:=tys0
 specs:=specsOf [sp_from,sp_cutPrefix,sp_run,sp_atoi]
def g_num_vc (s:By) (a:Int) (lo:Int) (hi:Int):Prop:=
 True/\((!(fromF s a).2)=true->((0:Int),(0:Int),(2:Int),())=((numF s a lo hi).1,(numF s a lo hi).2.1,(numF s a lo hi).2.2,()))/\((!(fromF s a).2)=false->True/\(Lib.trimPrefix (fromF s a).1 [(45:UInt8)]).length<=(1000000:Nat)/\(decide ((↑(Lib.trimPrefix (fromF s a).1 [(45:UInt8)]).length:Int)=(0:Int))=true->((0:Int),(0:Int),(4:Int),())=((numF s a lo hi).1,(numF s a lo hi).2.1,(numF s a lo hi).2.2,()))/\(decide ((↑(Lib.trimPrefix (fromF s a).1 [(45:UInt8)]).length:Int)=(0:Int))=false->(decide (runF (Lib.trimPrefix (fromF s a).1 [(45:UInt8)])=(0:Int))=false->(0<=(0:Int)/\(0:Int)<(↑(Lib.trimPrefix (fromF s a).1 [(45:UInt8)]).length:Int))/\∀(c:UInt8),(Lib.trimPrefix (fromF s a).1 [(45:UInt8)])[Int.toNat (0:Int)]? =some c->(decide ((↑c.toNat:Int)=(48:Int))=true->(decide ((1:Int)<runF (Lib.trimPrefix (fromF s a).1 [(45:UInt8)]))=false->(Lib.hasPrefix (fromF s a).1 [(45:UInt8)]=true->((0:Int),(0:Int),(5:Int),())=((numF s a lo hi).1,(numF s a lo hi).2.1,(numF s a lo hi).2.2,()))/\(Lib.hasPrefix (fromF s a).1 [(45:UInt8)]=false->(-9223372036854775808<=(↑(List.length (fromF s a).1):Int)-(↑(Lib.trimPrefix (fromF s a).1 [(45:UInt8)]).length:Int)/\(↑(List.length (fromF s a).1):Int)-(↑(Lib.trimPrefix (fromF s a).1 [(45:UInt8)]).length:Int)<=9223372036854775807)/\(-9223372036854775808<=(↑(List.length (fromF s a).1):Int)-(↑(Lib.trimPrefix (fromF s a).1 [(45:UInt8)]).length:Int)+runF (Lib.trimPrefix (fromF s a).1 [(45:UInt8)])/\(↑(List.length (fromF s a).1):Int)-(↑(Lib.trimPrefix (fromF s a).1 [(45:UInt8)]).length:Int)+runF (Lib.trimPrefix (fromF s a).1 [(45:UInt8)])<=9223372036854775807)/\(0<=(↑(List.length (fromF s a).1):Int)-(↑(Lib.trimPrefix (fromF s a).1 [(45:UInt8)]).length:Int)+runF (Lib.trimPrefix (fromF s a).1 [(45:UInt8)])/\(↑(List.length (fromF s a).1):Int)-(↑(Lib.trimPrefix (fromF s a).1 [(45:UInt8)]).length:Int)+runF (Lib.trimPrefix (fromF s a).1 [(45:UInt8)])<=(↑(List.length (fromF s a).1):Int))/\(List.take ((↑(List.length (fromF s a).1):Int)-(↑(Lib.trimPrefix (fromF s a).1 [(45:UInt8)]).length:Int)+runF (Lib.trimPrefix (fromF s a).1 [(45:UInt8)])).toNat (fromF s a).1).length<=(281474976710656:Nat)/\((!!atoiE (List.take ((↑(List.length (fromF s a).1):Int)-(↑(Lib.trimPrefix (fromF s a).1 [(45:UInt8)]).length:Int)+runF (Lib.trimPrefix (fromF s a).1 [(45:UInt8)])).toNat (fromF s a).1))=false->(decide (atoiV (List.take ((↑(List.length (fromF s a).1):Int)-(↑(Lib.trimPrefix (fromF s a).1 [(45:UInt8)]).length:Int)+runF (Lib.trimPrefix (fromF s a).1 [(45:UInt8)])).toNat (fromF s a).1)<lo)=false->(decide (hi<atoiV (List.take ((↑(List.length (fromF s a).1):Int)-(↑(Lib.trimPrefix (fromF s a).1 [(45:UInt8)]).length:Int)+runF (Lib.trimPrefix (fromF s a).1 [(45:UInt8)])).toNat (fromF s a).1))=true->((0:Int),(0:Int),(7:Int),())=((numF s a lo hi).1,(numF s a lo hi).2.1,(numF s a lo hi).2.2,()))/\(decide (hi<atoiV (List.take ((↑(List.length (fromF s a).1):Int)-(↑(Lib.trimPrefix (fromF s a).1 [(45:UInt8)]).length:Int)+runF (Lib.trimPrefix (fromF s a).1 [(45:UInt8)])).toNat (fromF s a).1))=false->(-9223372036854775808<=a+((↑(List.length (fromF s a).1):Int)-(↑(Lib.trimPrefix (fromF s a).1 [(45:UInt8)]).length:Int)+runF (Lib.trimPrefix (fromF s a).1 [(45:UInt8)]))/\a+((↑(List.length (fromF s a).1):Int)-(↑(Lib.trimPrefix (fromF s a).1 [(45:UInt8)]).length:Int)+runF (Lib.trimPrefix (fromF s a).1 [(45:UInt8)]))<=9223372036854775807)/\(atoiV (List.take ((↑(List.length (fromF s a).1):Int)-(↑(Lib.trimPrefix (fromF s a).1 [(45:UInt8)]).length:Int)+runF (Lib.trimPrefix (fromF s a).1 [(45:UInt8)])).toNat (fromF s a).1),a+((↑(List.length (fromF s a).1):Int)-(↑(Lib.trimPrefix (fromF s a).1 [(45:UInt8)]).length:Int)+runF (Lib.trimPrefix (fromF s a).1 [(45:UInt8)])),(0:Int),())=((numF s a lo hi).1,(numF s a lo hi).2.1,(numF s a lo hi).2.2,())))/\(decide (atoiV (List.take ((↑(List.length (fromF s a).1):Int)-(↑(Lib.trimPrefix (fromF s a).1 [(45:UInt8)]).length:Int)+runF (Lib.trimPrefix (fromF s a).1 [(45:UInt8)])).toNat (fromF s a).1)<lo)= !false->((0:Int),(0:Int),(7:Int),())=((numF s a lo hi).1,(numF s a lo hi).2.1,(numF s a lo hi).2.2,())))/\((!!atoiE (List.take ((↑(List.length (fromF s a).1):Int)-(↑(Lib.trimPrefix (fromF s a).1 [(45:UInt8)]).length:Int)+runF (Lib.trimPrefix (fromF s a).1 [(45:UInt8)])).toNat (fromF s a).1))= !false->((0:Int),(0:Int),(7:Int),())=((numF s a lo hi).1,(numF s a lo hi).2.1,(numF s a lo hi).2.2,()))))/\(decide ((1:Int)<runF (Lib.trimPrefix (fromF s a).1 [(45:UInt8)]))= !false->((0:Int),(0:Int),(5:Int),())=((numF s a lo hi).1,(numF s a lo hi).2.1,(numF s a lo hi).2.2,())))/\(decide ((↑c.toNat:Int)=(48:Int))= !true->(-9223372036854775808<=(↑(List.length (fromF s a).1):Int)-(↑(Lib.trimPrefix (fromF s a).1 [(45:UInt8)]).length:Int)/\(↑(List.length (fromF s a).1):Int)-(↑(Lib.trimPrefix (fromF s a).1 [(45:UInt8)]).length:Int)<=9223372036854775807)/\(-9223372036854775808<=(↑(List.length (fromF s a).1):Int)-(↑(Lib.trimPrefix (fromF s a).1 [(45:UInt8)]).length:Int)+runF (Lib.trimPrefix (fromF s a).1 [(45:UInt8)])/\(↑(List.length (fromF s a).1):Int)-(↑(Lib.trimPrefix (fromF s a).1 [(45:UInt8)]).length:Int)+runF (Lib.trimPrefix (fromF s a).1 [(45:UInt8)])<=9223372036854775807)/\(0<=(↑(List.length (fromF s a).1):Int)-(↑(Lib.trimPrefix (fromF s a).1 [(45:UInt8)]).length:Int)+runF (Lib.trimPrefix (fromF s a).1 [(45:UInt8)])/\(↑(List.length (fromF s a).1):Int)-(↑(Lib.trimPrefix (fromF s a).1 [(45:UInt8)]).length:Int)+runF (Lib.trimPrefix (fromF s a).1 [(45:UInt8)])<=(↑(List.length (fromF s a).1):Int))/\(List.take ((↑(List.length (fromF s a).1):Int)-(↑(Lib.trimPrefix (fromF s a).1 [(45:UInt8)]).length:Int)+runF (Lib.trimPrefix (fromF s a).1 [(45:UInt8)])).toNat (fromF s a).1).length<=(281474976710656:Nat)/\((!!atoiE (List.take ((↑(List.length (fromF s a).1):Int)-(↑(Lib.trimPrefix (fromF s a).1 [(45:UInt8)]).length:Int)+runF (Lib.trimPrefix (fromF s a).1 [(45:UInt8)])).toNat (fromF s a).1))=false->(decide (atoiV (List.take ((↑(List.length (fromF s a).1):Int)-(↑(Lib.trimPrefix (fromF s a).1 [(45:UInt8)]).length:Int)+runF (Lib.trimPrefix (fromF s a).1 [(45:UInt8)])).toNat (fromF s a).1)<lo)=false->(decide (hi<atoiV (List.take ((↑(List.length (fromF s a).1):Int)-(↑(Lib.trimPrefix (fromF s a).1 [(45:UInt8)]).length:Int)+runF (Lib.trimPrefix (fromF s a).1 [(45:UInt8)])).toNat (fromF s a).1))=true->((0:Int),(0:Int),(7:Int),())=((numF s a lo hi).1,(numF s a lo hi).2.1,(numF s a lo hi).2.2,()))/\(decide (hi<atoiV (List.take ((↑(List.length (fromF s a).1):Int)-(↑(Lib.trimPrefix (fromF s a).1 [(45:UInt8)]).length:Int)+runF (Lib.trimPrefix (fromF s a).1 [(45:UInt8)])).toNat (fromF s a).1))=false->(-9223372036854775808<=a+((↑(List.length (fromF s a).1):Int)-(↑(Lib.trimPrefix (fromF s a).1 [(45:UInt8)]).length:Int)+runF (Lib.trimPrefix (fromF s a).1 [(45:UInt8)]))/\a+((↑(List.length (fromF s a).1):Int)-(↑(Lib.trimPrefix (fromF s a).1 [(45:UInt8)]).length:Int)+runF (Lib.trimPrefix (fromF s a).1 [(45:UInt8)]))<=9223372036854775807)/\(atoiV (List.take ((↑(List.length (fromF s a).1):Int)-(↑(Lib.trimPrefix (fromF s a).1 [(45:UInt8)]).length:Int)+runF (Lib.trimPrefix (fromF s a).1 [(45:UInt8)])).toNat (fromF s a).1),a+((↑(List.length (fromF s a).1):Int)-(↑(Lib.trimPrefix (fromF s a).1 [(45:UInt8)]).length:Int)+runF (Lib.trimPrefix (fromF s a).1 [(45:UInt8)])),(0:Int),())=((numF s a lo hi).1,(numF s a lo hi).2.1,(numF s a lo hi).2.2,())))/\(decide (atoiV (List.take ((↑(List.length (fromF s a).1):Int)-(↑(Lib.trimPrefix (fromF s a).1 [(45:UInt8)]).length:Int)+runF (Lib.trimPrefix (fromF s a).1 [(45:UInt8)])).toNat (fromF s a).1)<lo)= !false->((0:Int),(0:Int),(7:Int),())=((numF s a lo hi).1,(numF s a lo hi).2.1,(numF s a lo hi).2.2,())))/\((!!atoiE (List.take ((↑(List.length (fromF s a).1):Int)-(↑(Lib.trimPrefix (fromF s a).1 [(45:UInt8)]).length:Int)+runF (Lib.trimPrefix (fromF s a).1 [(45:UInt8)])).toNat (fromF s a).1))= !false->((0:Int),(0:Int),(7:Int),())=((numF s a lo hi).1,(numF s a lo hi).2.1,(numF s a lo hi).2.2,()))))/\(decide (runF (Lib.trimPrefix (fromF s a).1 [(45:UInt8)])=(0:Int))= !false->((0:Int),(0:Int),(5:Int),())=((numF s a lo hi).1,(numF s a lo hi).2.1,(numF s a lo hi).2.2,()))))
def numR (r:By) (a lo hi:Int):Int×Int×Int:=
 if Lib.trimPrefix r [45]=[] then (0,0,4) else
  if runF (Lib.trimPrefix r [45])=0∨((Lib.trimPrefix r [45]).head? =some 48/\(1<runF (Lib.trimPrefix r [45])∨Lib.hasPrefix r [45]=true)) then (0,0,5) else
   if inR (pzs (r.take (wideF r).toNat)) lo hi then (pzs (r.take (wideF r).toNat),a+wideF r,0) else (0,0,7)
theorem numF_bad {s:By} {a lo hi:Int} (h:a<0∨(s.length:Int)<a):numF s a lo hi=(0,0,2):=by unfold numF;rw [if_pos h]
theorem numF_in {s:By} {a lo hi:Int} (h: ¬(a<0∨(s.length:Int)<a)):numF s a lo hi=numR (s.drop a.toNat) a lo hi:=by unfold numF numR;rw [if_neg h]
theorem numR_short {r:By} {a lo hi:Int} (h:Lib.trimPrefix r [45]=[]):numR r a lo hi=(0,0,4):=by unfold numR;rw [if_pos h]
theorem numR_form {r:By} {a lo hi:Int} (h: ¬Lib.trimPrefix r [45]=[]) (k:runF (Lib.trimPrefix r [45])=0∨((Lib.trimPrefix r [45]).head? =some 48/\(1<runF (Lib.trimPrefix r [45])∨Lib.hasPrefix r [45]=true))):numR r a lo hi=(0,0,5):=by
 unfold numR;rw [if_neg h,if_pos k]
theorem numR_ok {r:By} {a lo hi:Int} (h: ¬Lib.trimPrefix r [45]=[]) (k: ¬(runF (Lib.trimPrefix r [45])=0∨((Lib.trimPrefix r [45]).head? =some 48/\(1<runF (Lib.trimPrefix r [45])∨Lib.hasPrefix r [45]=true)))):
 numR r a lo hi=if inR (pzs (r.take (wideF r).toNat)) lo hi then (pzs (r.take (wideF r).toNat),a+wideF r,0) else (0,0,7):=by
 unfold numR;rw [if_neg h,if_neg k]
theorem head_48 {b:By} {c:UInt8} (h:b[Int.toNat 0]? =some c) (e:(c.toNat:Int)=48):b.head? =some 48:=by
 rw [List.head?_eq_getElem?];rw [show (48:UInt8)=c from (u8_ext (by rw [e];rfl)).symm];exact h
theorem num_rest {t D : By} {w a lo hi : Int} {n : Int × Int × Int} (ht : Numl t D) (hw : -10000000 <= w /\ w <= 10000000) (ha : -10000000 <= a /\ a <= 10000000) (hn : n = if inR (pzs t) lo hi then (pzs t, a + w, 0) else (0, 0, 7)) :
    ((!!atoiE t) = false -> (¬ atoiV t < lo -> (hi < atoiV t -> ((0 : Int), (0 : Int), (7 : Int), ()) = (n.1, n.2.1, n.2.2, ())) /\ (¬ hi < atoiV t -> (-9223372036854775808 <= a + w /\ a + w <= 9223372036854775807) /\ (atoiV t, a + w, (0 : Int), ()) = (n.1, n.2.1, n.2.2, ()))) /\
      (atoiV t < lo -> ((0 : Int), (0 : Int), (7 : Int), ()) = (n.1, n.2.1, n.2.2, ()))) /\ ((!!atoiE t) = true -> ((0 : Int), (0 : Int), (7 : Int), ()) = (n.1, n.2.1, n.2.2, ())) := by
  have hl := atoi_law ht
  unfold atoiE atoiV
  by_cases c : -9223372036854775808 <= pzs t /\ pzs t <= 9223372036854775807
  · rw [if_pos c] at hl
    rw [hl]
    dsimp only
    refine ⟨fun _ => ⟨fun d => ⟨fun e => ?_, fun e => ⟨by omega, ?_⟩⟩, fun d => ?_⟩, fun d => by cases d⟩
    · rw [hn, if_neg (by unfold inR; rw [decide_eq_true_eq]; omega)]
    · rw [hn, if_pos (by unfold inR; rw [decide_eq_true_eq]; omega)]
    · rw [hn, if_neg (by unfold inR; rw [decide_eq_true_eq]; omega)]
  · rw [if_neg c] at hl
    rw [hl]
    dsimp only
    refine ⟨fun d => (by cases d), fun _ => ?_⟩
    rw [hn, if_neg (by unfold inR; rw [decide_eq_true_eq]; omega)]
theorem g_num_ok (s:By) (a lo hi:Int) (h:s.length<=10000):g_num_vc s a lo hi:=by
 unfold g_num_vc;by_cases c:a<0∨(s.length:Int)<a
 ·rw [fromF_bad c,numF_bad c];exact ⟨trivial,fun _=>rfl,fun d=>by cases d⟩
 ·rw [fromF_good c];dsimp only;have hrl:(s.drop a.toNat).length<=10000:=by rw [List.length_drop];omega
  have hnum:=numF_in (s:=s) (a:=a) (lo:=lo) (hi:=hi) c;generalize s.drop a.toNat=r at*;rw [hnum];have htl:(Lib.trimPrefix r [45]).length<=r.length:=by
   rw [trim_minus];split
   ·rw [List.length_drop];omega
   ·omega
  simp only [decide_eq_true_eq,decide_eq_false_iff_not,Bool.not_false,Bool.not_true];refine ⟨trivial,fun d=>(by cases d),fun _=>⟨trivial,by omega,fun d=> ?_,fun d=>⟨fun e=>⟨⟨by omega,by omega⟩,fun q hq=>⟨fun f=>⟨fun g=>⟨fun k=> ?_,fun k=> ?_⟩,fun g=> ?_⟩,fun f=> ?_⟩⟩,fun e=> ?_⟩⟩⟩
  ·rw [numR_short (List.eq_nil_of_length_eq_zero (by omega))]
  ·rw [numR_form (fun w=>d (by rw [w];rfl)) (.inr ⟨head_48 hq f, .inr k⟩)]
  ·have hcan: ¬((Lib.trimPrefix r [45]).head? =some 48/\(1<runF (Lib.trimPrefix r [45])∨Lib.hasPrefix r [45]=true)):=by
    rintro ⟨_,w|w⟩
    ·exact g w
    ·rw [k] at w;cases w
   obtain ⟨n1,_,n2,n3⟩:=wide_num e;unfold wideF at n1 n2 n3;refine ⟨by omega,by omega,by omega,by rw [List.length_take];omega,num_rest n1 (by omega) (by omega) (numR_ok (fun w=>d (by rw [w];rfl)) (by rintro (w|w);exact e w;exact hcan w))⟩
  ·rw [numR_form (fun w=>d (by rw [w];rfl)) (.inr ⟨head_48 hq f, .inl g⟩)]
  ·have hcan: ¬((Lib.trimPrefix r [45]).head? =some 48/\(1<runF (Lib.trimPrefix r [45])∨Lib.hasPrefix r [45]=true)):=by
    rintro ⟨w,_⟩;rw [List.head?_eq_getElem?] at w;have:=hq.symm.trans w;cases this;exact f rfl
   obtain ⟨n1,_,n2,n3⟩:=wide_num e;unfold wideF at n1 n2 n3;refine ⟨by omega,by omega,by omega,by rw [List.length_take];omega,num_rest n1 (by omega) (by omega) (numR_ok (fun w=>d (by rw [w];rfl)) (by rintro (w|w);exact e w;exact hcan w))⟩
  ·rw [numR_form (fun w=>d (by rw [w];rfl)) (.inl e)]
noncomputable def sp_num:FSpec Tryz.prog:=mkF 57 (.c .s (.c .j (.c .j (.c .j .z)))) [.int .i64, .int .i64, .int .i64] (fun x=>(fun (s:By) (a lo hi:Int)=>(s.length<=10000,(numF s a lo hi).1,(numF s a lo hi).2.1,(numF s a lo hi).2.2,())) x.1 x.2.1 x.2.2.1 x.2.2.2.1) fun ⟨s,a,lo,hi,_⟩ h=>Pure.of_cond (E:=env_num s a lo hi) (by kernel_rfl) (g_num_ok s a lo hi h) (specs_ok rfl _ [] rfl rfl) mixed Tryz.func57
def firstP (s:By) (a:Int):Int:=if s[a.toNat]? =some 45 then a+1 else a
theorem first_parts {s:By} {a:Int} (h: ¬(a<0∨(s.length:Int)<a)):s.drop (firstP s a).toNat=Lib.trimPrefix (s.drop a.toNat) [45]/\a<=firstP s a/\firstP s a<=s.length/\firstP s a+runF (Lib.trimPrefix (s.drop a.toNat) [45])=a+wideF (s.drop a.toNat):=by
 have hd:(s.drop a.toNat).head? =s[a.toNat]? :=by rw [List.head?_eq_getElem?,drop_get];rfl
 have hdl:(s.drop a.toNat).length=s.length-a.toNat:=List.length_drop;unfold firstP wideF;rw [trim_minus,hd];by_cases c:s[a.toNat]? =some 45
 ·have:=(List.getElem?_eq_some_iff.1 c).1;have l2:(s.drop (a.toNat+1)).length=s.length-(a.toNat+1):=List.length_drop;rw [if_pos c,if_pos c,List.drop_drop];refine ⟨by rw [toNat_next (by omega)],by omega,by omega,by omega⟩
 ·rw [if_neg c,if_neg c];exact ⟨rfl,by omega,by omega,by omega⟩
end Go.Proofs.YtabicbgeoiilmaaGreatDoor
end
section
namespace Go.Proofs.YtabicbgeoiilmaaGreatDoor
open Go.Vm
theorem numF_err {s:By} {a lo hi:Int} (h: ¬(numF s a lo hi).2.2=0):(numF s a lo hi).1=0/\(numF s a lo hi).2.1=0:=by
 unfold numF at h⊢;repeat' split
 all_goals first
  |exact ⟨rfl,rfl⟩
  |(rename_i h1 h2 h3 h4;rw [if_neg h1,if_neg h2,if_neg h3,if_pos h4] at h;exact absurd rfl h)
theorem run_stop (b:By) (c:UInt8) (h:b[(runF b).toNat]? =some c):isDig c=false:=by
 induction b with
 |nil=>simp at h
 |cons x r ih=>
  unfold runF at h ih;rw [List.takeWhile_cons] at h;by_cases k:isDig x=true
  ·rw [if_pos k,List.length_cons] at h;refine ih ?_;rw [Int.toNat_natCast] at h⊢;rw [List.getElem?_cons_succ] at h;exact h
  ·rw [if_neg k] at h;have:some x=some c:=h;cases this;simpa using k
theorem numF_zero {s:By} {a lo hi:Int} (h:(numF s a lo hi).2.2=0):(0<=a/\a<=s.length)/\(a<=(numF s a lo hi).2.1/\(numF s a lo hi).2.1<=s.length)/\(lo<=(numF s a lo hi).1/\(numF s a lo hi).1<=hi)/\InI (numF s a lo hi).1/\
 Lib.itoa (numF s a lo hi).1=(s.take (numF s a lo hi).2.1.toNat).drop a.toNat/\∀c,s[(numF s a lo hi).2.1.toNat]? =some c->isDig c=false:=by
 by_cases hb:a<0∨(s.length:Int)<a
 ·rw [numF_bad hb] at h;cases h
 rw [numF_in hb] at h⊢;have hrl:(s.drop a.toNat).length=s.length-a.toNat:=List.length_drop;by_cases h1:Lib.trimPrefix (s.drop a.toNat) [45]=[]
 ·rw [numR_short h1] at h;cases h
 by_cases h2:runF (Lib.trimPrefix (s.drop a.toNat) [45])=0∨((Lib.trimPrefix (s.drop a.toNat) [45]).head? =some 48/\(1<runF (Lib.trimPrefix (s.drop a.toNat) [45])∨Lib.hasPrefix (s.drop a.toNat) [45]=true))
 ·rw [numR_form h1 h2] at h;cases h
 rw [numR_ok h1 h2] at h⊢;by_cases h3:inR (pzs ((s.drop a.toNat).take (wideF (s.drop a.toNat)).toNat)) lo hi=true
 ·rw [if_pos h3];dsimp only;unfold inR at h3;rw [decide_eq_true_eq] at h3;have hr:runF (Lib.trimPrefix (s.drop a.toNat) [45])≠0:=fun k=>h2 (.inl k);obtain ⟨n1,_,n2,n3⟩:=wide_num hr;have hc:=(wide_canon hr).2 (fun k=>h2 (.inr k));obtain ⟨p1,p2,p3,p4⟩:=first_parts hb;refine ⟨by omega,by omega,by omega,⟨by omega,by omega⟩, ?_,fun c hc=> ?_⟩
  ·rw [hc,List.take_drop];congr 2;omega
  ·refine run_stop (Lib.trimPrefix (s.drop a.toNat) [45]) c ?_;have hr0:0<=runF (Lib.trimPrefix (s.drop a.toNat) [45]):=by unfold runF;omega
   rw [<-p1,drop_get,p1,<-hc];congr 1;omega
 ·rw [if_neg h3] at h;cases h
theorem itoa_len {n:Int} (h:InI n):(Lib.itoa n).length<=40:=by
 have h1:=itoa_text (Big_digs n);rw [big_digs] at h1;have h2:=digI_len h;rw [h1];unfold textL padL;split<;>split<;>simp<;>omega
end Go.Proofs.YtabicbgeoiilmaaGreatDoor
end
