/- The 256 elements: sums, products and inverses, with the laws that solving needs. -/
import Derived.Test.YtkimkgbppegkhaaGreatAa
import Derived.KernelRfl
set_option linter.unusedVariables false
set_option linter.unusedSimpArgs false
namespace Go.Proofs.YtkimkgbppegkhaaGreat
namespace Gf
def xt(a:Nat):Nat:=if 128≤a then(2*a)%256 ^^^ 29 else(2*a)%256
def b3:Nat→Nat→Nat→Nat
 |0,_,_=>0
 |n+1,a,b=>(if b%2=1 then a else 0) ^^^ b3 n (xt a) (b/2)
def gm(a b:Nat):Nat:=b3 8 a b
def gC:Nat→Nat→Nat→Nat→Nat
 |0,_,_,out=>out
 |f+1,a,n,out=>if n=0 then out else gC f (gm a a) (n/2) (if n%2=1 then gm out a else out)
def iv(a:Nat):Nat:=gC 8 a 254 1
def qj(p:Nat→Nat→Bool):Bool:=(List.range 256).all fun a=>(List.range 256).all fun b=>p a b
theorem yd{p:Nat→Nat→Bool}(h:qj p=true){a b:Nat}(ha:a<256)(hb:b<256):p a b=true:=by
 unfold qj at h
 rw[List.all_eq_true]at h
 have h1:=h a (List.mem_range.mpr ha)
 rw[List.all_eq_true]at h1
 exact h1 b (List.mem_range.mpr hb)
theorem GG:qj (fun a b=>Nat.beq (xt (a ^^^ b)) (xt a ^^^ xt b))=true:=by kernel_rfl
theorem Ez:qj (fun a b=>Nat.beq (gm a b) (gm b a))=true:=by kernel_rfl
theorem GP:(List.range 256).all (fun a=>Nat.beq a 0 || (Nat.beq (gm a (iv a)) 1&&Nat.blt (iv a) 256))=true:=by kernel_rfl
theorem gO{a b:Nat}(ha:a<256)(hb:b<256):a ^^^ b<256:=Nat.xor_lt_two_pow (n:=8) ha hb
theorem j0(a:Nat):xt a<256:=by
 unfold xt;split
 ·exact gO (Nat.mod_lt _ (by decide)) (by decide)
 ·exact Nat.mod_lt _ (by decide)
theorem yF{a b:Nat}(ha:a<256)(hb:b<256):xt (a ^^^ b)=xt a ^^^ xt b:=Nat.eq_of_beq_eq_true (yd GG ha hb)
theorem gm_comm{a b:Nat}(ha:a<256)(hb:b<256):gm a b=gm b a:=Nat.eq_of_beq_eq_true (yd Ez ha hb)
theorem sH:∀(n a b:Nat),a<256→b3 n a b<256
 |0,_,_,_=>by simp[b3]
 |n+1,a,b,ha=>by
  unfold b3
  refine gO ?_ (sH n _ _ (j0 a))
  split
  ·exact ha
  ·decide
theorem lJ{a b:Nat}(ha:a<256):gm a b<256:=sH 8 a b ha
theorem r9:xt 0=0:=by decide
theorem x4(a b c d:Nat):(a ^^^ b) ^^^ (c ^^^ d)=(a ^^^ c) ^^^ (b ^^^ d):=by
 rw[Nat.xor_assoc,←Nat.xor_assoc b c d,Nat.xor_comm b c,Nat.xor_assoc c b d,←Nat.xor_assoc a c]
theorem gmN_addl:∀(n a a' b:Nat),a<256→a'<256→b3 n (a ^^^ a') b=b3 n a b ^^^ b3 n a' b
 |0,_,_,_,_,_=>by simp[b3]
 |n+1,a,a',b,ha,hb=>by
  unfold b3
  rw[yF ha hb,gmN_addl n _ _ _ (j0 a) (j0 a'),x4]
  split<;>simp
theorem rB:∀(n a b b':Nat),b3 n a (b ^^^ b')=b3 n a b ^^^ b3 n a b'
 |0,_,_,_=>by simp[b3]
 |n+1,a,b,b'=>by
  unfold b3
  rw[Nat.xor_div_two,rB n,x4]
  congr 1
  have h:=@Nat.xor_mod_two_eq_one b b'
  by_cases h1:b%2=1<;>by_cases h2:b'%2=1
  ·rw[if_neg (by rw[h];simp[h1,h2]),if_pos h1,if_pos h2,Nat.xor_self]
  ·rw[if_pos (by rw[h];simp[h1,h2]),if_pos h1,if_neg h2,Nat.xor_zero]
  ·rw[if_pos (by rw[h];simp[h1,h2]),if_neg h1,if_pos h2,Nat.zero_xor]
  ·rw[if_neg (by rw[h];simp[h1,h2]),if_neg h1,if_neg h2,Nat.xor_zero]
theorem y0:∀(n a b:Nat),a<256→b3 n (xt a) b=xt (b3 n a b)
 |0,_,_,_=>by simp[b3,r9]
 |n+1,a,b,ha=>by
  unfold b3
  rw[y0 n _ _ (j0 a),yF (by split;exact ha;decide) (sH n _ _ (j0 a))]
  split<;>simp[r9]
theorem Gk{a b:Nat}(ha:a<256)(hb:b<256):gm a (xt b)=xt (gm a b):=by
 rw[gm_comm ha (j0 b),gm_comm ha hb];exact y0 8 b a hb
theorem gM(a:Nat):gm a 0=0:=by
 unfold gm
 have:∀n a,b3 n a 0=0:=by
  intro n;induction n with
  |zero=>intro a;rfl
  |succ n ih=>intro a;unfold b3;rw[show(0:Nat)/2=0 from rfl,ih];simp
 exact this 8 a
theorem yO:∀(n a b c:Nat),a<256→b<256→gm a (b3 n b c)=b3 n (gm a b) c
 |0,_,_,_,_,_=>by simp[b3,gM]
 |n+1,a,b,c,ha,hb=>by
  unfold b3
  rw[show gm a ((if c%2=1 then b else 0) ^^^ b3 n (xt b) (c/2))=gm a (if c%2=1 then b else 0) ^^^ gm a (b3 n (xt b) (c/2))from rB 8 _ _ _,yO n a (xt b) _ ha (j0 b),Gk ha hb]
  split<;>simp[gM]
theorem EV{a b:Nat}(ha:a<256)(hb:b<256)(c:Nat):gm a (gm b c)=gm (gm a b) c:=yO 8 a b c ha hb
theorem tp{a:Nat}(ha:a<256)(h0:a≠0):gm a (iv a)=1∧iv a<256:=by
 have h:=GP
 rw[List.all_eq_true]at h
 have h1:=h a (List.mem_range.mpr ha)
 rw[Bool.or_eq_true,Bool.and_eq_true]at h1
 rcases h1 with h1 | ⟨h1,h2⟩
 ·exact absurd (Nat.eq_of_beq_eq_true h1) h0
 ·exact⟨Nat.eq_of_beq_eq_true h1,Nat.le_of_ble_eq_true h2⟩
theorem Ec:(List.range 256).all (fun a=>Nat.blt (iv a) 256)=true:=by kernel_rfl
theorem jh{a:Nat}(ha:a<256):iv a<256:=by
 have h:=Ec
 rw[List.all_eq_true]at h
 exact Nat.le_of_ble_eq_true (h a (List.mem_range.mpr ha))
abbrev G:=Fin 256
def add(a b:G):G:=⟨a.val ^^^ b.val,gO a.isLt b.isLt⟩
def mul(a b:G):G:=⟨gm a.val b.val,lJ a.isLt⟩
def HU(a:G):G:=⟨iv a.val,jh a.isLt⟩
def O:G:=⟨0,by decide⟩
def I:G:=⟨1,by decide⟩
theorem HT(a b:G):add a b=add b a:=Fin.ext (Nat.xor_comm _ _)
theorem add_assoc(a b c:G):add (add a b) c=add a (add b c):=Fin.ext (Nat.xor_assoc _ _ _)
theorem mul_comm(a b:G):mul a b=mul b a:=Fin.ext (gm_comm a.isLt b.isLt)
theorem add_mul(a b c:G):mul (add a b) c=add (mul a c) (mul b c):=Fin.ext (gmN_addl 8 _ _ _ a.isLt b.isLt)
theorem Db:(List.range 256).all (fun a=>Nat.beq (gm 1 a) a)=true:=by kernel_rfl
end Gf
end Go.Proofs.YtkimkgbppegkhaaGreat
