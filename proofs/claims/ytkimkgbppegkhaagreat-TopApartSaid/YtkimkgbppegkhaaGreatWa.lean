/- The clean machine: heaps of known objects, told apart and told within one another; and the numbers of a block of two. -/
import Derived.Test.YtkimkgbppegkhaaGreatFnF
set_option linter.unusedVariables false
set_option linter.unusedSimpArgs false
namespace Go.Proofs.YtkimkgbppegkhaaGreat.Cm
open Go Go.RowKit Go.Proofs.YtkimkgbppegkhaaGreat.Gf
set_option maxRecDepth 1000000
noncomputable def zQ(a b:U×U):Bool:=lZ a.1 b.1&&lZ a.2 b.2
noncomputable def ta:O→O→Bool
 |.cells a x,.cells b y=>x == y&&ii lU a b
 |.mp a,.mp b=>ii zQ a b
 |.it a i p,.it b j q=>a == b&&i == j&&p == q
 |_,_=>false
theorem E4{a b:O}(h:ta a b=true):a=b:=by
 cases a<;>cases b<;>simp only[ta,Bool.and_eq_true,beq_iff_eq]at h<;>first
  |(cases h;done)
  |(rw[h.1,jM (fun _ _=>oZ) h.2])
  |(rw[jM (fun a b h=>?_) h];obtain⟨a,a'⟩:=a;obtain⟨b,b'⟩:=b;simp only[zQ,Bool.and_eq_true]at h;rw[oM h.1,oM h.2])
  |(rw[h.1.1,h.1.2,h.2])
noncomputable def zG:Option O→Option O→Bool
 |none,_=>true
 |some a,some b=>ta a b
 |_,_=>false
/-- what is in the one is in the other -/
noncomputable def kg:T O→T O→Bool
 |.leaf,_=>true
 |.node l v r,.node l' v' r'=>zG v v'&&kg l l'&&kg r r'
 |_,_=>false
theorem oG:∀{a b:T O},kg a b=true→∀k o,a.get k=some o→b.get k=some o
 |.leaf,_,_,k,o,h=>by rw[T.get_leaf]at h;cases h
 |.node l v r,.node l' v' r',h,k,o,hk=>by
  simp only[kg,Bool.and_eq_true]at h
  rw[T.get_node]at hk⊢
  by_cases h0:k=0
  ·rw[if_pos h0]at hk⊢
   rw[hk]at h
   cases v' with
   |none=>exact absurd h.1.1 (by simp[zG])
   |some b=>rw[E4 h.1.1]
  ·rw[if_neg h0]at hk⊢
   by_cases h1:k%2=1
   ·rw[if_pos h1]at hk⊢;exact oG h.1.2 _ _ hk
   ·rw[if_neg h1]at hk⊢;exact oG h.2 _ _ hk
 |.node ..,.leaf,h,_,_,_=>by cases h
noncomputable def z5(j:Nat)(o:Option (V×T O×Nat)):Bool:=match o with
 |some (.tup [.f (.int .i64 a),.f (.int .i64 b)],_,n)=>c6 a j&&c6 b 0&&Nat.ble n 1000
 |_=>false
theorem GW{k j:Nat}(h:z5 j (zJ k)=true)(H:Heap)(m:Nat)(hH:∀i,m≤i→i<m+1000→H i=none):aS Tryz.prog 45 [vi k] H m (.tup [.f (.int .i64 j),.f (.int .i64 0)]) H (m+1000):=by
 unfold z5 at h
 split at h
 ·rename_i a b H' n he
  rw[Bool.and_eq_true,Bool.and_eq_true,ft,ft,beq_iff_eq,beq_iff_eq]at h
  obtain⟨⟨rfl,rfl⟩,h⟩:=h
  have hn:=Nat.le_of_ble_eq_true h
  have h1:=mn cX oT 100000 45 [vi k] .leaf 0 _ H' n (fun _ _=>rfl) he
  have h2:=(h1.less (G:=fun _=>none) (fun _ _ h=>by cases h) hn).closed H m rfl hH
  have e:(cH (m+·) (· - m) (fun _=>none)).or H=H:=by
   funext i
   have:cH (m+·) (· - m) (fun _=>none) i=none:=by unfold cH; split<;>rfl
   rw[Heap.or_right this]
  rw[e]at h2
  exact h2
 ·cases h
theorem GN(H:Heap)(m:Nat)(hH:∀i,m≤i→i<m+1000→H i=none):aS Tryz.prog 45 [vi 2] H m (.tup [.f (.int .i64 (0:Nat)),.f (.int .i64 0)]) H (m+1000):=GW kr H m hH
noncomputable def j1:bN:=fun f args H n=>
 cv (Nat.beq f 45) (jp args fun x=>bC (eD .i64 2 x) fun a=>cv (Nat.beq a 2) (some (.tup [.f (.int .i64 (.ofNat 0)),.f (.int .i64 (.ofNat 0))],H,Nat.add n 1000)) none)<|
 nu f args H n
theorem mh{α:Type}{b:Bool}{y:Option α}{r:α}(h:cv b y none=some r):b=true∧y=some r:=by
 cases b with
 |true=>exact⟨rfl,h⟩
 |false=>cases h
theorem xe:bN.Ok Tryz.prog j1:=by
 intro f args H n v H' n' ht h
 unfold j1 at h
 rcases gH h with⟨rfl,h⟩ | h
 ·obtain⟨x,rfl,h⟩:=kO h
  obtain⟨a,h1,h⟩:=b9 h
  obtain⟨h2,h⟩:=mh h
  cases h
  obtain⟨rfl,g1⟩:=eH h1
  have:=Nat.eq_of_beq_eq_true h2
  subst this
  exact GN _ _ fun i hi _=>ht i hi
 ·exact oT _ _ _ _ _ _ _ ht h
def zi(n:Nat):F:=.int .i64 (.ofNat n)
noncomputable def zb(l:List Nat):List F:=@List.rec Nat (fun _=>List F) [] (fun x _ r=>.int .u8 (.ofNat x)::r) l
noncomputable def zr(n:Nat)(x:F):List F:=@Nat.rec (fun _=>List F) [] (fun _ r=>x::r) n
noncomputable def za(l k:List F):List F:=@List.rec F (fun _=>List F) k (fun x _ r=>x::r) l
/-- is the answer this one, are these objects in its heap, and are there no more names? -/
noncomputable def lE(v:V)(G:T O)(m:Nat)(o:Option (V×T O×Nat)):Bool:=match o with
 |some (u,H',n')=>j6 u v&&kg G H'&&Nat.ble n' m
 |none=>false
theorem EW{orc:bN}(ho:bN.Ok Tryz.prog orc){f:Nat}{args:List V}{H:T O}{n:Nat}{v:V}{G:T O}{m:Nat}(h:lE v G m (iJ Tryz.prog orc 100000 f args H n)=true)(ht:ap H.get n):aS Tryz.prog f args H.get n v G.get m:=by
 unfold lE at h
 split at h
 ·rename_i u H' n' he
  rw[Bool.and_eq_true,Bool.and_eq_true]at h
  have:=mE h.1.1
  subst this
  exact(mn cX ho 100000 f args H n _ H' n' ht he).less (oG h.1.2) (Nat.le_of_ble_eq_true h.2)
 ·cases h
/-- objects laid over a heap -/
noncomputable def hO(l:List (Nat×O))(t:T O):T O:=@List.rec (Nat×O) (fun _=>T O) t (fun p _ r=>r.set p.1 (some p.2)) l
noncomputable def kh(k:Nat)(l:List (Nat×O)):Bool:=@List.rec (Nat×O) (fun _=>Bool) false (fun p _ r=>@Bool.rec (fun _=>Bool) r true (Nat.beq k p.1)) l
noncomputable def tR(n:Nat)(L:List (Nat×O))(K:List (Nat×O)):Bool:=@List.rec (Nat×O) (fun _=>Bool) true (fun p _ r=>@Bool.rec (fun _=>Bool) false r (@Bool.rec (fun _=>Bool) (Nat.ble n p.1) true (kh p.1 L))) K
noncomputable def tG(L K:List (Nat×O)):Bool:=@List.rec (Nat×O) (fun _=>Bool) true (fun p _ r=>@Bool.rec (fun _=>Bool) false r (kh p.1 K)) L
noncomputable def qC(K:List (Nat×O)):Bool:=@List.rec (Nat×O) (fun _=>Bool) true (fun p _ r=>@Bool.rec (fun _=>Bool) false r (Nat.ble p.1 1000000)) K
theorem nt{a b c:Bool}:(@Bool.rec (fun _=>Bool) a b c=true)↔(c=true∧b=true)∨(c=false∧a=true):=by cases c<;>simp
theorem rZ{k:Nat}:∀{l:List (Nat×O)},kh k l=true↔k∈l.map Prod.fst
 |[]=>by simp[kh]
 |p::l=>by
  show@Bool.rec (fun _=>Bool) (kh k l) true (Nat.beq k p.1)=true↔_
  rw[nt,rZ (l:=l),List.map_cons,List.mem_cons]
  by_cases h:k=p.1
  ·subst h;simp
  ·have:Nat.beq k p.1=false:=by
    cases e:Nat.beq k p.1
    ·rfl
    ·exact absurd (Nat.eq_of_beq_eq_true e) h
   simp[this,h]
theorem y'{n:Nat}{L:List (Nat×O)}:∀{K:List (Nat×O)},tR n L K=true→∀k∈K.map Prod.fst,k∈L.map Prod.fst∨n≤k
 |[],_,k,h=>by cases h
 |p::K,h,k,hk=>by
  have h:@Bool.rec (fun _=>Bool) false (tR n L K) (@Bool.rec (fun _=>Bool) (Nat.ble n p.1) true (kh p.1 L))=true:=h
  rw[nt,nt]at h
  rcases h with⟨h1,h2⟩|⟨_,h⟩
  ·rcases List.mem_cons.1 hk with rfl | hk
   ·rcases h1 with⟨h1,_⟩|⟨_,h1⟩
    ·exact .inl (rZ.1 h1)
    ·exact .inr (Nat.le_of_ble_eq_true h1)
   ·exact y' h2 k hk
  ·cases h
theorem xW{K:List (Nat×O)}:∀{L:List (Nat×O)},tG L K=true→∀k∈L.map Prod.fst,k∈K.map Prod.fst
 |[],_,k,h=>by cases h
 |p::L,h,k,hk=>by
  have h:@Bool.rec (fun _=>Bool) false (tG L K) (kh p.1 K)=true:=h
  rw[nt]at h
  rcases h with⟨h1,h2⟩|⟨_,h⟩
  ·rcases List.mem_cons.1 hk with rfl | hk
   ·exact rZ.1 h1
   ·exact xW h2 k hk
  ·cases h
theorem sD:∀{l:List (Nat×O)} {t:T O},qC l=true→(hO l t).get=Heap.or (hO l .leaf).get t.get∧∀k,(hO l .leaf).get k≠none↔k∈l.map Prod.fst
 |[],t,_=>⟨rfl,fun k=>by show T.get .leaf k≠none↔_;rw[T.get_leaf];simp⟩
 |p::l,t,h=>by
  have h:@Bool.rec (fun _=>Bool) false (qC l) (Nat.ble p.1 1000000)=true:=h
  rw[nt]at h
  rcases h with⟨h1,h2⟩|⟨_,h⟩
  ·have h1:=Nat.le_of_ble_eq_true h1
   obtain⟨g1,g2⟩:=sD (l:=l) (t:=t) h2
   have e:∀t:T O,(hO (p::l) t).get=upd (hO l t).get p.1 (some p.2):=fun t=>rU om
   refine⟨?_,fun k=>?_⟩
   ·rw[e,e,g1]
    funext k
    unfold Heap.or upd
    by_cases hk:k=p.1<;>simp[hk]
   ·rw[e,List.map_cons,List.mem_cons,←g2 k]
    unfold upd
    by_cases hk:k=p.1<;>simp[hk]
  ·cases h
/-- one call that is known, from all heaps that hold these objects -/
noncomputable def ny(orc:bN)(f0:Nat)(a0:List V)(L:List (Nat×O))(n0:Nat)(v:V)(K:List (Nat×O))(m:Nat):bN:=fun f args H n=>
 @Option.rec (V×T O×Nat) (fun _=>Option (V×T O×Nat)) (orc f args H n) (fun r=>some r) (cv (Nat.beq f f0) (cv (Nat.beq n n0) (cv (ii j6 args a0) (cv (kg (hO L .leaf) H) (some (v,hO K H,m)) none) none) none) none)
theorem su{orc:bN}(ho:bN.Ok Tryz.prog orc){f0:Nat}{a0:List V}{L K:List (Nat×O)}{n0:Nat}{v:V}{m:Nat}(hc:(tR n0 L K&&tG L K&&qC L&&qC K)=true)(hk:lE v (hO K .leaf) m (iJ Tryz.prog j1 100000 f0 a0 (hO L .leaf) n0)=true):bN.Ok Tryz.prog (ny orc f0 a0 L n0 v K m):=by
 intro f args H n v' H' n' ht h
 unfold ny at h
 cases hp:(cv (Nat.beq f f0) (cv (Nat.beq n n0) (cv (ii j6 args a0) (cv (kg (hO L .leaf) H) (some (v,hO K H,m)) none) none) none) none)with
 |none=>rw[hp]at h;exact ho _ _ _ _ _ _ _ ht h
 |some r=>
  rw[hp]at h
  cases h
  obtain⟨h1,hp⟩:=mh hp
  obtain⟨h2,hp⟩:=mh hp
  obtain⟨h3,hp⟩:=mh hp
  obtain⟨h4,hp⟩:=mh hp
  cases hp
  have:=Nat.eq_of_beq_eq_true h1
  have:=Nat.eq_of_beq_eq_true h2
  have:=jM (fun _ _=>mE) h3
  subst_vars
  rw[Bool.and_eq_true,Bool.and_eq_true,Bool.and_eq_true]at hc
  obtain⟨⟨⟨c1,c2⟩,c3⟩,c4⟩:=hc
  have hs:=oG h4
  obtain⟨_,l2⟩:=sD (t:=.leaf) c3
  obtain⟨k1,k2⟩:=sD (t:=H) c4
  have hc:=EW xe hk fun k hk=>by
   cases e:(hO L .leaf).get k with
   |none=>rfl
   |some o=>rw[←hs k o e];exact ht k hk
  have hb:=hc.beside (fun id=>if(hO L .leaf).get id=none then H.get id else none) (fun id h=>if_neg h) fun id h=>by
   rcases y' c1 id ((k2 id).1 h)with g | g
   ·exact if_neg ((l2 id).2 g)
   ·show(if _ then _ else _)=none
    rw[ht id g];simp
  rw[k1]
  have e1:Heap.or (hO L .leaf).get (fun id=>if(hO L .leaf).get id=none then H.get id else none)=H.get:=by
   funext id
   cases e:(hO L .leaf).get id with
   |none=>rw[Heap.or_right e,if_pos e]
   |some o=>rw[Heap.or_left e];exact(hs id o e).symm
  have e2:Heap.or (hO K .leaf).get (fun id=>if(hO L .leaf).get id=none then H.get id else none)=Heap.or (hO K .leaf).get H.get:=by
   funext id
   cases e:(hO K .leaf).get id with
   |none=>
    rw[Heap.or_right e,Heap.or_right e,if_pos]
    cases e2:(hO L .leaf).get id with
    |none=>rfl
    |some o=>
     have:=(k2 id).2 (xW c2 id ((l2 id).1 (by rw[e2];simp)))
     exact absurd e this
   |some o=>rw[Heap.or_left e,Heap.or_left e]
  rw[e1,e2]at hb
  exact hb
end Go.Proofs.YtkimkgbppegkhaaGreat.Cm
