/-
  command: what comes back. Plain Lean.
-/
import Derived.Test.YtabicbgeoiilmaaGreatDoorCmd8
section
namespace Go.Proofs.YtabicbgeoiilmaaGreatDoor.Cm
open Go.Vm
set_option maxRecDepth 20000
end Go.Proofs.YtabicbgeoiilmaaGreatDoor.Cm
end
section
namespace Go.Proofs.YtabicbgeoiilmaaGreatDoor.Cm
open Go.Vm
theorem within_err {s:By} {a e lo hi:Int} (h: ¬e=0):withinF s a e lo hi=(0,a,e):=by
 unfold withinF;rw [if_neg h]
theorem any_err {s:By} {a e:Int} (h: ¬e=0):anyF s a e=(0,a,e):=within_err h
theorem parts_err {s:By} {e:Int} (h: ¬e=0): ∀(L:List Int) (a:Int) (l:List Int),(partsGo s L (a,e,l)).2.1=e
 |[],_,_=>rfl
 |j::r,a,l=>by
  show (partsGo s r ((withinF s a e (loF j) (hiF j)).2.1,(withinF s a e (loF j) (hiF j)).2.2,_)).2.1=e;rw [within_err h];exact parts_err h r a _
theorem line_err {s:By} {e:Int} (h: ¬e=0): ∀(n:Nat) (a:Int) (ls:List LnD),(lineGo s n (a,e,ls)).2.1=e
 |0,_,_=>rfl
 |n+1,a,ls=>by
  unfold lineGo;simp only [any_err h];exact line_err h n _ _
theorem tail_err {s:By} {k a e:Int} (h: ¬e=0):(tailF s k a e).2.1=e:=by
 unfold tailF;split
 ·simp only [within_err h];exact line_err h _ _ _
 ·rfl
end Go.Proofs.YtabicbgeoiilmaaGreatDoor.Cm
end
section
namespace Go.Proofs.YtabicbgeoiilmaaGreatDoor.Cm
open Go.Vm
set_option maxRecDepth 20000
theorem in_lit {n:Int} (h:decide (-1000<=n/\n<=1000)=true):InI n:=by
 have:=of_decide_eq_true h;unfold InI;omega
end Go.Proofs.YtabicbgeoiilmaaGreatDoor.Cm
end
section
namespace Go.Proofs.YtabicbgeoiilmaaGreatDoor.Cm
open Go.Vm
theorem within_read {s:By} {a lo hi:Int} (ha:0<=a) (ha2:a<=s.length) (h:(withinF s a 0 lo hi).2.2=0):
 a<=(withinF s a 0 lo hi).2.1/\(withinF s a 0 lo hi).2.1<=s.length/\lo<=(withinF s a 0 lo hi).1/\(withinF s a 0 lo hi).1<=hi/\InI (withinF s a 0 lo hi).1/\
  s.take (withinF s a 0 lo hi).2.1.toNat=s.take a.toNat++sayF [(withinF s a 0 lo hi).1]:=by
 unfold withinF at h⊢;rw [if_pos rfl] at h⊢;by_cases hl:(litF s a [32]).2=0
 ·rw [if_pos hl] at h⊢;have hl1:(litF s a [32]).1=a+1/\Lib.hasPrefix (s.drop a.toNat) [32]=true:=by
   unfold litF at hl⊢;rw [if_neg (by omega)] at hl⊢;by_cases hp:Lib.hasPrefix (s.drop a.toNat) [32]=true
   ·rw [if_pos hp];exact ⟨rfl,hp⟩
   ·rw [if_neg hp] at hl;split at hl<;>cases hl
  rw [hl1.1] at h⊢;obtain ⟨⟨_,n2⟩,⟨n3,n4⟩,⟨n5,n6⟩,n7,n8,_⟩:=numF_zero h;refine ⟨by omega,n4,n5,n6,n7, ?_⟩;have hp:=(hasPrefix_iff _ _).1 hl1.2;have hp:(s.drop a.toNat).take 1=[32]:=hp;generalize (numF s (a+1) lo hi).2.1=b at n3 n4 n8⊢;generalize (numF s (a+1) lo hi).1=n at n8⊢;have e2:sayF [n]=[32]++Lib.itoa n:=by simp [sayF]
  rw [e2,n8,<-hp,<-List.append_assoc,<-List.take_add,show a.toNat+1=(a+1).toNat by omega];have:s.take (a+1).toNat=(s.take b.toNat).take (a+1).toNat:=by
   rw [List.take_take,Nat.min_eq_left (by omega)]
  rw [this,List.take_append_drop]
 ·rw [if_neg hl] at h;exact absurd h hl
def setL (l:List Int):List Int->List Int->List Int
 |j::r,v::vs=>setL (l.set j.toNat v) r vs
 |_,_=>l
def Fits:List Int->List Int->Prop
 |j::r,v::vs=>(InI v/\loF j<=v/\v<=hiF j)/\Fits r vs
 |[],[]=>True
 |_,_=>False
theorem parts_read {s:By}: ∀{L:List Int} {a:Int} {l:List Int},0<=a->a<=s.length->(partsGo s L (a,0,l)).2.1=0->
 ∃vs,Fits L vs/\partsGo s L (a,0,l)=((partsGo s L (a,0,l)).1,0,setL l L vs)/\a<=(partsGo s L (a,0,l)).1/\(partsGo s L (a,0,l)).1<=s.length/\s.take (partsGo s L (a,0,l)).1.toNat=s.take a.toNat++sayF vs
 |[],a,l,h0,h1,_=>⟨[],trivial,rfl,Int.le_refl _,h1,by simp [sayF,partsGo]⟩
 |j::L,a,l,h0,h1,h=>by
  have e:partsGo s (j::L) (a,0,l)=partsGo s L ((withinF s a 0 (loF j) (hiF j)).2.1,(withinF s a 0 (loF j) (hiF j)).2.2,l.set j.toNat (withinF s a 0 (loF j) (hiF j)).1):=rfl;rw [e] at h⊢;by_cases he:(withinF s a 0 (loF j) (hiF j)).2.2=0
  ·obtain ⟨w1,w2,w3,w4,w5,w6⟩:=within_read h0 h1 he;rw [he] at h⊢;obtain ⟨vs,q1,q2,q3,q4,q5⟩:=parts_read (by omega) w2 h;refine ⟨(withinF s a 0 (loF j) (hiF j)).1::vs,⟨⟨w5,w3,w4⟩,q1⟩,q2,by omega,q4, ?_⟩;rw [q5,w6,List.append_assoc,<-sayF_app];rfl
  ·rw [parts_err he] at h;exact absurd h he
theorem line_read {s:By}: ∀{n:Nat} {a:Int} {out:List LnD},0<=a->a<=s.length->(lineGo s n (a,0,out)).2.1=0->
 ∃ls:List LnD,ls.length=n/\(∀x∈ls,InLn x)/\lineGo s n (a,0,out)=((lineGo s n (a,0,out)).1,0,out++ls)/\a<=(lineGo s n (a,0,out)).1/\(lineGo s n (a,0,out)).1<=s.length/\s.take (lineGo s n (a,0,out)).1.toNat=s.take a.toNat++sayF (ls.flatMap lnL)
 |0,a,out,h0,h1,_=>⟨[],rfl,(fun _ h=>by cases h),by simp [lineGo],Int.le_refl _,h1,by simp [sayF,lineGo]⟩
 |n+1,a,out,h0,h1,h=>by
  have e:lineGo s (n+1) (a,0,out)=lineGo s n ((anyF s (anyF s (anyF s (anyF s a 0).2.1 (anyF s a 0).2.2).2.1 (anyF s (anyF s a 0).2.1 (anyF s a 0).2.2).2.2).2.1 (anyF s (anyF s (anyF s a 0).2.1 (anyF s a 0).2.2).2.1 (anyF s (anyF s a 0).2.1 (anyF s a 0).2.2).2.2).2.2).2.1,
   (anyF s (anyF s (anyF s (anyF s a 0).2.1 (anyF s a 0).2.2).2.1 (anyF s (anyF s a 0).2.1 (anyF s a 0).2.2).2.2).2.1 (anyF s (anyF s (anyF s a 0).2.1 (anyF s a 0).2.2).2.1 (anyF s (anyF s a 0).2.1 (anyF s a 0).2.2).2.2).2.2).2.2,
   out++[((anyF s a 0).1,(anyF s (anyF s a 0).2.1 (anyF s a 0).2.2).1,(anyF s (anyF s (anyF s a 0).2.1 (anyF s a 0).2.2).2.1 (anyF s (anyF s a 0).2.1 (anyF s a 0).2.2).2.2).1,(anyF s (anyF s (anyF s (anyF s a 0).2.1 (anyF s a 0).2.2).2.1 (anyF s (anyF s a 0).2.1 (anyF s a 0).2.2).2.2).2.1 (anyF s (anyF s (anyF s a 0).2.1 (anyF s a 0).2.2).2.1 (anyF s (anyF s a 0).2.1 (anyF s a 0).2.2).2.2).2.2).1)]):=rfl
  rw [e] at h⊢;by_cases k1:(anyF s a 0).2.2=0
  ·obtain ⟨w1,w2,_,_,w5,w6⟩:=within_read h0 h1 k1;change a<=(anyF s a 0).2.1 at w1;change (anyF s a 0).2.1<=s.length at w2;change InI (anyF s a 0).1 at w5;change s.take (anyF s a 0).2.1.toNat=s.take a.toNat++sayF [(anyF s a 0).1] at w6;rw [k1] at h⊢;generalize (anyF s a 0).2.1=a1 at*;generalize (anyF s a 0).1=y1 at*;by_cases k2:(anyF s a1 0).2.2=0
   ·obtain ⟨v1,v2,_,_,v5,v6⟩:=within_read (by omega) w2 k2;change a1<=(anyF s a1 0).2.1 at v1;change (anyF s a1 0).2.1<=s.length at v2;change InI (anyF s a1 0).1 at v5;change s.take (anyF s a1 0).2.1.toNat=s.take a1.toNat++sayF [(anyF s a1 0).1] at v6;rw [k2] at h⊢;generalize (anyF s a1 0).2.1=a2 at*;generalize (anyF s a1 0).1=y2 at*;by_cases k3:(anyF s a2 0).2.2=0
    ·obtain ⟨u1,u2,_,_,u5,u6⟩:=within_read (by omega) v2 k3;change a2<=(anyF s a2 0).2.1 at u1;change (anyF s a2 0).2.1<=s.length at u2;change InI (anyF s a2 0).1 at u5;change s.take (anyF s a2 0).2.1.toNat=s.take a2.toNat++sayF [(anyF s a2 0).1] at u6;rw [k3] at h⊢;generalize (anyF s a2 0).2.1=a3 at*;generalize (anyF s a2 0).1=y3 at*;by_cases k4:(anyF s a3 0).2.2=0
     ·obtain ⟨t1,t2,_,_,t5,t6⟩:=within_read (by omega) u2 k4;change a3<=(anyF s a3 0).2.1 at t1;change (anyF s a3 0).2.1<=s.length at t2;change InI (anyF s a3 0).1 at t5;change s.take (anyF s a3 0).2.1.toNat=s.take a3.toNat++sayF [(anyF s a3 0).1] at t6;rw [k4] at h⊢;generalize (anyF s a3 0).2.1=a4 at*;generalize (anyF s a3 0).1=y4 at*;obtain ⟨ls,q1,q2,q3,q4,q5,q6⟩:=line_read (by omega) t2 h;refine ⟨(y1,y2,y3,y4)::ls,by simp [q1], ?_,q3.trans (by simp only [List.append_assoc,List.singleton_append]),by omega,q5, ?_⟩
      ·intro x hx;rcases List.mem_cons.1 hx with rfl|hx
       ·intro z hz;simp only [lnL,List.mem_cons,List.not_mem_nil,or_false] at hz;rcases hz with rfl|rfl|rfl|rfl
        ·exact w5
        ·exact v5
        ·exact u5
        ·exact t5
       ·exact q2 x hx
      ·rw [q6,t6,u6,v6,w6];have e6:sayF (((y1,y2,y3,y4)::ls).flatMap lnL)=sayF [y1]++(sayF [y2]++(sayF [y3]++(sayF [y4]++sayF (ls.flatMap lnL)))):=by
        rw [<-sayF_app,<-sayF_app,<-sayF_app,<-sayF_app];simp [lnL]
       rw [e6];simp only [List.append_assoc]
     ·rw [line_err k4] at h;exact absurd h k4
    ·simp only [any_err k3] at h;rw [line_err k3] at h;exact absurd h k3
   ·simp only [any_err k2] at h;rw [line_err k2] at h;exact absurd h k2
  ·simp only [any_err k1] at h;rw [line_err k1] at h;exact absurd h k1
theorem lit0 (s w:By):litF s 0 w=if Lib.hasPrefix s w then ((w.length:Int),0) else if Lib.hasPrefix w s then (0,4) else (0,8):=by
 unfold litF;rw [if_neg (by omega)];show (if Lib.hasPrefix s w then ((0:Int)+w.length,(0:Int)) else _)=_;rw [Int.zero_add];rfl
theorem kindL_read (s:By): ∀(l:List Int) (w:Int),w≠0->(kindL s l w).2.2=0->(kindL s l w).2.1=((wordF (kindL s l w).1).length:Int)/\s.take (wordF (kindL s l w).1).length=wordF (kindL s l w).1
 |[],w,hw,h=>absurd h hw
 |k::r,w,hw,h=>by
  unfold kindL at h⊢;by_cases e:(litF s 0 (wordF k)).2=0
  ·rw [if_pos e];dsimp only;rw [lit0] at e⊢;by_cases hp:Lib.hasPrefix s (wordF k)=true
   ·rw [if_pos hp];exact ⟨rfl,(hasPrefix_iff _ _).1 hp⟩
   ·rw [if_neg hp] at e;split at e<;>cases e
  ·rw [if_neg e] at h⊢;refine kindL_read s r _ ?_ h;split
   ·decide
   ·exact hw
theorem kind_read {s:By} (h:(kindF s).2.2=0):(kindF s).2.1=((wordF (kindF s).1).length:Int)/\s.take (wordF (kindF s).1).length=wordF (kindF s).1:=kindL_read s kinds 8 (by decide) h
theorem setL_len: ∀(L vs l:List Int),(setL l L vs).length=l.length
 |[],_,_=>by simp [setL]
 |_::_,[],_=>by simp [setL]
 |j::r,v::vs,l=>by
  simp only [setL];rw [setL_len r vs,List.length_set]
theorem setL_off: ∀(L vs l:List Int) (i:Nat),(∀j∈L,0<=j)->(i:Int)∉L->(setL l L vs)[i]? =l[i]?
 |[],_,_,_,_,_=>by simp [setL]
 |_::_,[],_,_,_,_=>by simp [setL]
 |j::r,v::vs,l,i,h0,hi=>by
  simp only [setL];have hj:=h0 j (by simp);rw [setL_off r vs _ i (fun x hx=>h0 x (by simp [hx])) (fun hx=>hi (by simp [hx])),List.getElem?_set_ne (fun e=>hi (by simp;left;omega))]
theorem setL_map: ∀(L vs l:List Int),(∀j∈L,0<=j/\j<l.length)->L.Nodup->vs.length=L.length->L.map (nthI (setL l L vs))=vs
 |[],[],_,_,_,_=>rfl
 |[],_::_,_,_,_,h=>by simp at h
 |_::_,[],_,_,_,h=>by simp at h
 |j::r,v::vs,l,h0,hn,hl=>by
  have hj:=h0 j (by simp);rw [List.nodup_cons] at hn;simp only [setL,List.map_cons];rw [setL_map r vs _ (fun x hx=>by rw [List.length_set];exact h0 x (by simp [hx])) hn.2 (by simpa using hl)];congr 1;unfold nthI;rw [setL_off r vs _ _ (fun x hx=>(h0 x (by simp [hx])).1) (by rw [show ((j.toNat:Nat):Int)=j by omega];exact hn.1),List.getElem?_set_self (by omega)];rfl
theorem fits_len: ∀{L vs:List Int},Fits L vs->vs.length=L.length
 |[],[],_=>rfl
 |_::_,_::_,h=>by simp [fits_len h.2]
 |[],_::_,h=>h.elim
 |_::_,[],h=>h.elim
theorem fits_all {f:Int->Int}: ∀{L:List Int},Fits L (L.map f)->∀j∈L,InI (f j)/\loF j<=f j/\f j<=hiF j
 |[],_,_,h=>by cases h
 |j::r,h,x,hx=>by
  rcases List.mem_cons.1 hx with rfl|hx
  ·exact h.1
  ·exact fits_all h.2 x hx
theorem part_nodup {k:Int}:(partF k).Nodup:=by
 unfold partF partL;generalize (k-1).toNat=j;match j with
 |0|1|2|3|4|5|6|7=>decide
 |n+8=>simp
theorem all_eight {l:List Int} (h:l.length=8): ∃a b c d e f g i,l=[a,b,c,d,e,f,g,i]:=by
 match l,h with
 |[a,b,c,d,e,f,g,i],_=>exact ⟨a,b,c,d,e,f,g,i,rfl⟩
theorem bit_dec {n:Int} (h:n=0∨n=1):bitF (decide (n=1))=n:=by
 rcases h with rfl|rfl<;>rfl
theorem all_mk {k:Int} {l:List Int} {ls:List LnD} (h:l.length=8) (h4:nthI l 4=0∨nthI l 4=1) (h5:nthI l 5=0∨nthI l 5=1):allF (mkC k l ls)=l:=by
 obtain ⟨a,b,c,d,e,f,g,i,rfl⟩:=all_eight h;have e4:bitF (decide (e=1))=e:=bit_dec h4;have e5:bitF (decide (f=1))=f:=bit_dec h5;show [a,b,c,d,bitF (decide (e=1)),bitF (decide (f=1)),g,i]=_;rw [e4,e5]
theorem chk_ok {c:CmD} (h1:1<=c.1) (h8:c.1<=8) (h50:(linesF c).length<=50) (hl:c.1=7∨linesF c=[]) (h: ∀i:Int,0<=i->i<8->i∉partF c.1->nthI (allF c) i=0):checkF c=0:=by
 rw [checkF_ok h1 h8 h50 (by rcases hl with e|e;exact .inl e;exact .inr (by rw [e];rfl)),if_neg];rw [badF_false fun i i0 i1 hb=>hb.1 (h i i0 i1 hb.2)];decide
theorem full_take {s t:By} {b:Int} (h:s.take b.toNat=t) (hb: ¬b<s.length):s=t:=by
 rw [<-h,List.take_of_length_le (by omega)]
theorem read_back {s:By} (h:(cparseF s).2=0):checkF (cparseF s).1=0/\textF (cparseF s).1=s/\InC (cparseF s).1:=by
 have e:(kindF s).2.2=0:=Classical.byContradiction fun e=>by
  rw [cp_err e] at h;exact e h
 obtain ⟨k1,k8⟩:=kindF_in e;obtain ⟨hn,hw⟩:=kind_read e;rw [cp_rest e rfl] at h⊢;unfold restF at h⊢;have ht0:(tailF s (kindF s).1 (P0 s).1 (P0 s).2.1).2.1=0:=Classical.byContradiction fun ht=>by
  rw [if_neg ht] at h;exact ht h
 rw [if_pos ht0] at h⊢;by_cases hr:(tailF s (kindF s).1 (P0 s).1 (P0 s).2.1).1<s.length
 ·rw [if_pos hr] at h;cases h
 rw [if_neg hr];dsimp only;have hp0:(P0 s).2.1=0:=Classical.byContradiction fun hp=>by
  rw [tail_err hp] at ht0;exact hp ht0
 have hwl:(wordF (kindF s).1).length<=s.length:=by
  have:=congrArg List.length hw;rw [List.length_take] at this;omega
 unfold P0 at hp0;obtain ⟨vs,q1,q2,q3,q4,q5⟩:=parts_read (by omega) (by omega) hp0;change P0 s=((P0 s).1,0,setL zeros (partF (kindF s).1) vs) at q2;change _<=(P0 s).1 at q3;change (P0 s).1<=_ at q4;change s.take (P0 s).1.toNat=_ at q5;rw [hn,Int.toNat_natCast,hw] at q5;have hm:=setL_map (partF (kindF s).1) vs zeros (fun j hj=>by have:=partF_in hj;simp;omega) part_nodup (fits_len q1);generalize hS:setL zeros (partF (kindF s).1) vs=S at hm q2;have hSl:S.length=8:=by rw [<-hS,setL_len];rfl
 have hoff: ∀i:Int,0<=i->i<8->i∉partF (kindF s).1->nthI S i=0:=fun i i0 i8 hi=>by
  unfold nthI;rw [<-hS,setL_off _ _ _ _ (fun j hj=>(partF_in hj).1) (by rw [show ((i.toNat:Nat):Int)=i by omega];exact hi)];have:i.toNat<8:=by omega
  generalize i.toNat=j at this;match j,this with
  |0,_|1,_|2,_|3,_|4,_|5,_|6,_|7,_=>rfl
 have hfit:=fits_all (f:=nthI S) (L:=partF (kindF s).1) (by rw [hm];exact q1);have hbit: ∀i:Int,(i=4∨i=5)->nthI S i=0∨nthI S i=1:=fun i hi=>by
  by_cases hin:i∈partF (kindF s).1
  ·obtain ⟨_,b1,b2⟩:=hfit i hin;unfold loF at b1;unfold hiF at b2;rw [if_pos hi] at b1 b2;omega
  ·exact .inl (hoff i (by omega) (by omega) hin)
 have hSI: ∀n∈S,InI n:=fun n hn=>by
  obtain ⟨i,hi,rfl⟩:=List.mem_iff_getElem.1 hn;have hv:nthI S i=S[i]:=by
   unfold nthI;rw [Int.toNat_natCast,List.getElem?_eq_getElem hi];rfl
  by_cases hin:(i:Int)∈partF (kindF s).1
  ·rw [<-hv];exact (hfit i hin).1
  ·rw [<-hv,hoff i (by omega) (by omega) hin];unfold InI;omega
 have hP1:(P0 s).2.2=S:=by rw [q2]
 have hP2:(P0 s).2.1=0:=by rw [q2]
 have hall: ∀ls,allF (hdC s ls)=S:=fun ls=>by
  unfold hdC;rw [hP1];exact all_mk hSl (hbit 4 (.inl rfl)) (hbit 5 (.inr rfl))
 have hkk: ∀ls,(hdC s ls).1=(kindF s).1:=fun _=>rfl;have hlin: ∀ls,linesF (hdC s ls)=ls:=fun _=>rfl;have fin: ∀ls:List LnD,ls.length<=50->((kindF s).1=7∨ls=[])->(∀x∈ls,InLn x)->s=wordF (kindF s).1++sayF (vs++if (kindF s).1=7 then (ls.length:Int)::ls.flatMap lnL else [])->
  checkF (hdC s ls)=0/\textF (hdC s ls)=s/\InC (hdC s ls):=fun ls l1 l2 l3 l4=>by
  refine ⟨chk_ok (by rw [hkk];exact k1) (by rw [hkk];exact k8) (by rw [hlin];exact l1) (by rw [hkk,hlin];exact l2) (fun i i0 i8 hi=>by rw [hall];exact hoff i i0 i8 (by rw [<-hkk ls];exact hi)), ?_,⟨by rw [hall];exact hSI,by rw [hlin];exact l3⟩⟩;unfold textF numsF;rw [hall,hkk,hlin,hm];exact l4.symm
 rw [hP2] at ht0 hr⊢;by_cases h7:(kindF s).1=7
 ·unfold tailF at ht0 hr⊢;rw [if_pos h7] at ht0 hr⊢;dsimp only at ht0 hr⊢;by_cases hx:(withinF s (P0 s).1 0 0 50).2.2=0
  ·obtain ⟨w1,w2,w3,w4,w5,w6⟩:=within_read (by omega) q4 hx;rw [hx] at ht0 hr⊢;obtain ⟨ls,r1,r2,r3,r4,r5,r6⟩:=line_read (by omega) w2 ht0;rw [r3];dsimp only;rw [List.nil_append];have hsx:=full_take r6 hr;refine fin ls (by omega) (.inl h7) r2 ?_;rw [if_pos h7];have e1:(withinF s (P0 s).1 0 0 50).1=(ls.length:Int):=by omega
   rw [e1] at w6;rw [w6,q5] at hsx;rw [sayF_app,<-List.singleton_append,sayF_app,<-List.append_assoc,<-List.append_assoc];exact hsx
  ·rw [line_err hx] at ht0;exact absurd ht0 hx
 ·unfold tailF at hr⊢;rw [if_neg h7] at hr⊢;dsimp only at hr⊢;have hsx:=full_take q5 hr;refine fin [] (by simp) (.inr rfl) (fun x hx=>by cases hx) ?_;rw [if_neg h7,List.append_nil];exact hsx
theorem say_len41 {l:List Int} (h: ∀n∈l,InI n):(sayF l).length<=41*l.length:=by
 induction l with
 |nil=>simp [sayF]
 |cons a r ih=>
  have:=ih (fun n hn=>h n (by simp [hn]));have h2:=itoa_len (h a (by simp));have e:sayF (a::r)=(32::Lib.itoa a)++sayF r:=by simp [sayF]
  rw [e];simp only [List.length_append,List.length_cons];omega
end Go.Proofs.YtabicbgeoiilmaaGreatDoor.Cm
end
