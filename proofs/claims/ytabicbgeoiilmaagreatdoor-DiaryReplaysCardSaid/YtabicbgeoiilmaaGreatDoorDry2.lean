import Derived.Test.YtabicbgeoiilmaaGreatDoorDry1
noncomputable section
namespace Go.Proofs.YtabicbgeoiilmaaGreatDoor.Dry
open Go.Vm
theorem H8 {s:By} {a lo hi:Int} (h: ¬(aK s a lo hi).2.2=0):(aK s a lo hi).1=0:=by
 unfold aK at h⊢;split
 ·rfl
 ·rename_i c1;rw [Q8 c1] at h;split
  ·rfl
  ·rename_i c2;rw [Q8 c2] at h;split
   ·rfl
   ·rename_i c3;rw [Q8 c3] at h;split
    ·rename_i c4;rw [Q_ c4] at h;exact absurd rfl h
    ·rfl
def zQ (s:By):Env where
 P:=Tryz.prog
 ty:=aJ
 specs:=ai [ue,CH]
def nO (s:By):Prop:=
 (List.length s<=(1000000:Nat)/\(4:Nat)<=(1000000:Nat))/\((!decide ((aO s 0 [(108:UInt8),(111:UInt8),(103:UInt8),(32:UInt8)]).2=0))=true->((0:Int),(aO s 0 [(108:UInt8),(111:UInt8),(103:UInt8),(32:UInt8)]).2,())=((aC s).1,(aC s).2,()))/\((!decide ((aO s 0 [(108:UInt8),(111:UInt8),(103:UInt8),(32:UInt8)]).2=0))=false->List.length s<=(10000:Nat)/\(ag ((aK s (aO s 0 [(108:UInt8),(111:UInt8),(103:UInt8),(32:UInt8)]).1 0 10000).2.2=0)->(ag ((aK s (aO s 0 [(108:UInt8),(111:UInt8),(103:UInt8),(32:UInt8)]).1 0 10000).2.1<(↑(List.length s):Int))->((0:Int),(6:Int),())=((aC s).1,(aC s).2,()))/\(aj ((aK s (aO s 0 [(108:UInt8),(111:UInt8),(103:UInt8),(32:UInt8)]).1 0 10000).2.1<(↑(List.length s):Int))->((aK s (aO s 0 [(108:UInt8),(111:UInt8),(103:UInt8),(32:UInt8)]).1 0 10000).1,(aK s (aO s 0 [(108:UInt8),(111:UInt8),(103:UInt8),(32:UInt8)]).1 0 10000).2.2,())=((aC s).1,(aC s).2,())))/\(aP ((aK s (aO s 0 [(108:UInt8),(111:UInt8),(103:UInt8),(32:UInt8)]).1 0 10000).2.2=0)->((aK s (aO s 0 [(108:UInt8),(111:UInt8),(103:UInt8),(32:UInt8)]).1 0 10000).1,(aK s (aO s 0 [(108:UInt8),(111:UInt8),(103:UInt8),(32:UInt8)]).1 0 10000).2.2,())=((aC s).1,(aC s).2,())))
theorem wS (s:By) (h:s.length<=10000):nO s:=by
 unfold nO aj aP ag;simp only [Q7,Q6,Rb,Rd,Rl,Rg];have e: ∀r,aC s=r->(r.1,r.2,())=((aC s).1,(aC s).2,()):=fun r h=>by rw [h]
 refine ⟨⟨by omega,by decide⟩,fun c=>e _ (Q_ c),fun c=>⟨h,fun d=>⟨fun f=>e (0,6) ?_,fun f=> ?_⟩,fun d=> ?_⟩⟩
 ·exact (Q8 (fun k=>k c)).trans ((Q8 (fun k=>k d)).trans (Q_ f))
 ·have d':(aK s (aO s 0 gG).1 0 10000).2.2=0:=d;rw [d'];exact e ((aK s (aO s 0 gG).1 0 10000).1,0) ((Q8 (fun k=>k c)).trans ((Q8 (fun k=>k d)).trans (Q8 f)))
 ·rw [H8 d];exact e (0,(aK s (aO s 0 gG).1 0 10000).2.2) ((Q8 (fun k=>k c)).trans (Q_ d))
set_option maxRecDepth 20000
def ED:FSpec Tryz.prog:=mkF 31 (.c .s .z) [.int .i64, .int .i64] (fun x=>(fun (s:By)=>(s.length<=10000,(aC s).1,(aC s).2,())) x.1) fun ⟨s,_⟩ h=>av (E:=zQ s) (wS s h) (ab rfl _ [] rfl rfl) Tryz.func31
def wT (s:By):Env where
 P:=Tryz.prog
 ty:=oG
 specs:=ai [H9,ED,Cm.Ee]
 heads:=fun|11=>some {slots:=[(9, .slc 9000 Cm),(6, .int .i64),(10, .int .i64)],boxes:=[],drop:=[5,7,11,12,13,14,40,41,42,43,44,45,46,47,48,49,50,51,52,53,54,55,56,57,58,59,60,61,62,63,64],inv:=fun _ (x:List Cm.CmD×Int×Int×Unit)=>x.2.2.1=x.1.length+1/\x.1.length<=(aC (al s 0).1).1.toNat/\aa s=cS s ((aC (al s 0).1).1.toNat-x.1.length) x.2.1 x.1,measure:=fun _ (x:List Cm.CmD×Int×Int×Unit)=>(aC (al s 0).1).1.toNat-x.1.length}|_=>none
def lh (s:By):Prop:=
 (ag ((1000000:Int)<(↑(List.length s):Int))->([],(0:Int),(3:Int),())=((aa s).1,(aa s).2.1,(aa s).2.2,()))/\(aj ((1000000:Int)<(↑(List.length s):Int))->List.length s<=(1000000:Nat)/\((!decide ((al s 0).2.2=0))=true->([],(0:Int),(al s 0).2.2,())=((aa s).1,(aa s).2.1,(aa s).2.2,()))/\((!decide ((al s 0).2.2=0))=false->List.length (al s 0).1<=(10000:Nat)/\((!decide ((aC (al s 0).1).2=0))=true->([],(0:Int),(aC (al s 0).1).2,())=((aa s).1,(aa s).2.1,(aa s).2.2,()))/\((!decide ((aC (al s 0).1).2=0))=false->(True/\(1:Int)=(↑(0:Nat):Int)+1/\(0:Nat)<=(aC (al s 0).1).1.toNat/\aa s=cS s ((aC (al s 0).1).1.toNat-(0:Nat)) (al s 0).2.1 [])/\∀(x:List (Int×Int×Int×Int×Int×Bool×Bool×(Int×Int)×List (Int×Int×Int×Int))×Int×Int×Unit),x.2.2.1=(↑x.1.length:Int)+1/\x.1.length<=(aC (al s 0).1).1.toNat/\aa s=cS s ((aC (al s 0).1).1.toNat-x.1.length) x.2.1 x.1->(ag (x.2.2.1<=(aC (al s 0).1).1)->List.length s<=(1000000:Nat)/\((!decide ((al s x.2.1).2.2=0))=true->([],x.2.2.1,(al s x.2.1).2.2,())=((aa s).1,(aa s).2.1,(aa s).2.2,()))/\((!decide ((al s x.2.1).2.2=0))=false->List.length (al s x.2.1).1<=(10000:Nat)/\((!decide ((Cm.ap (al s x.2.1).1).2=0))=true->([],x.2.2.1,(Cm.ap (al s x.2.1).1).2,())=((aa s).1,(aa s).2.1,(aa s).2.2,()))/\((!decide ((Cm.ap (al s x.2.1).1).2=0))=false->((x.1.length+(1:Nat))*(88:Nat)<=(140737488355328:Nat)/\x.1.length+(1:Nat)<=(4611686018427387904:Nat))/\(au (x.2.2.1+1))/\True/\(x.2.2.1+1=(↑(x.1++[(Cm.ap (al s x.2.1).1).1]).length:Int)+1/\(x.1++[(Cm.ap (al s x.2.1).1).1]).length<=(aC (al s 0).1).1.toNat/\aa s=cS s ((aC (al s 0).1).1.toNat-(x.1++[(Cm.ap (al s x.2.1).1).1]).length) (al s x.2.1).2.1 (x.1++[(Cm.ap (al s x.2.1).1).1]))/\(aC (al s 0).1).1.toNat-(x.1++[(Cm.ap (al s x.2.1).1).1]).length<(aC (al s 0).1).1.toNat-x.1.length)))/\(aj (x.2.2.1<=(aC (al s 0).1).1)->(ag (x.2.1<(↑(List.length s):Int))->(au ((aC (al s 0).1).1+1))/\([],(aC (al s 0).1).1+1,(6:Int),())=((aa s).1,(aa s).2.1,(aa s).2.2,()))/\(aj (x.2.1<(↑(List.length s):Int))->(x.1,(aC (al s 0).1).1,(0:Int),())=((aa s).1,(aa s).2.1,(aa s).2.2,()))))))
theorem ui (s:By) (h:fX s):lh s:=by
 unfold lh aj ag;simp only [Q7,Q6,Rb,Rd,Rl,Rg,Cm.Eg];have e: ∀r,aa s=r->(r.1,r.2.1,r.2.2,())=((aa s).1,(aa s).2.1,(aa s).2.2,()):=fun r h=>by rw [h]
 refine ⟨fun c=>e _ (Q_ (by omega)),fun c=> ?_⟩;have hl:s.length<=1000000:=by omega
 have c': ¬1000000<s.length:=by omega
 refine ⟨hl,fun d=>e _ ((Q8 c').trans (Q_ d)),fun d=>⟨h 0,fun f=>e _ ((Q8 c').trans ((Q8 (fun k=>k d)).trans (Q_ f))),fun f=> ?_⟩⟩;obtain ⟨f1,f2⟩:=pR f;have hd:aa s=cS s (aC (al s 0).1).1.toNat (al s 0).2.1 []:=(Q8 c').trans ((Q8 (fun k=>k d)).trans (Q8 (fun k=>k f)));generalize (aC (al s 0).1).1=n at*;refine ⟨⟨trivial,rfl,RV _,hd⟩, ?_⟩;rintro ⟨l,a,i,⟨⟩⟩ ⟨h0,h1,h2⟩;dsimp only at h0 h1 h2⊢;subst h0;refine ⟨fun g2=> ?_,fun g2=> ?_⟩
 ·obtain ⟨k,hk⟩: ∃k,n.toNat-l.length=k+1:=⟨n.toNat-l.length-1,by omega⟩
  have hx:=h2;rw [hk,cS] at hx;refine ⟨hl,fun a1=>e _ (hx.trans (Q_ a1)),fun a1=>⟨h _,fun b=>e _ (hx.trans ((Q8 (fun k=>k a1)).trans (Q_ b))),fun b=>⟨⟨by omega,by omega⟩,by omega,trivial,⟨by rw [Re,Rm];omega,by rw [Re,Rm];omega, ?_⟩,by rw [Re,Rm];omega⟩⟩⟩;rw [Re,Rm,show n.toNat-(l.length+1)=k by omega];exact hx.trans ((Q8 (fun k=>k a1)).trans (Q8 (fun k=>k b)))
 ·have hx:=h2;rw [show n.toNat-l.length=0 by omega] at hx;rw [show n=(l.length:Int) by omega];exact ⟨fun b=>⟨by omega,e _ (hx.trans (Q_ b))⟩,fun b=>e _ (hx.trans (Q8 b))⟩
def zR:FSpec Tryz.prog:=mkF 12 (.c .s .z) [.slc 9001 Cm, .int .i64, .int .i64] (fun x=>(fun (s:By)=>(fX s,(aa s).1,(aa s).2.1,(aa s).2.2,())) x.1) fun ⟨s,_⟩ h=>av (E:=wT s) (ui s h) (ab rfl _ [] rfl rfl) Tryz.func12
open Classical in
def sameL (l m:List Cm.CmD):Bool:=decide (l=m)
end Go.Proofs.YtabicbgeoiilmaaGreatDoor.Dry
