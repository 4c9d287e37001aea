/- Part 5. -/
import Derived.Test.YtaamhakdhaolmaaGreatDoorAab
import Derived.Test.YtaamhakdhaolmaaGreatDoorAae
namespace Go.Proofs.YtaamhakdhaolmaaGreatDoor
open Go.RowKit
set_option maxHeartbeats 8000000
set_option maxRecDepth 100000
variable {P:Prop}
set_option linter.all false
def F9(h:P:=by simp [results,Tryz.results293,go_sem,x1,x2]):=h
def FV(h:P:=by simp [results,Tryz.results271,go_sem,x1,x2]):=h
def JF(h:P:=by
 go_enter Tryz.func149,Tryz.ntmps149;go_wp2_with ((go_at_call 63;refine ay (cR _ _ _ _) ?_))
 exact vJ):=h
def FA(h:P:=by
 unfold bJ at h;simp only[Ux] at h;exact⟨bH h.1.1,bH h.1.2⟩):=h
def ar(a b:Int):Int:=(Int.gcd a b:Nat)
def CB(a:Int):ar a 0=a.natAbs:=by simp [ar]
def Ci(a b:Int):ar b (a.tmod b)=ar a b:=by
 show ((Nat.gcd b.natAbs (a.tmod b).natAbs:Nat):Int)=(Nat.gcd a.natAbs b.natAbs:Nat);rw[Yj,Nat.gcd_comm,<-Nat.gcd_rec,Nat.gcd_comm]
def nL(a b:Int)(h:a≠0\/b≠0):1<=ar a b/\(a≠0->ar a b<=a.natAbs)/\(b≠0->ar a b<=b.natAbs):=by
 unfold ar;have h0:0<Int.gcd a b:=Xy.2 h;refine⟨by omega,λha=>?_,λhb=>?_⟩
 .have:=Nat.le_of_dvd o_ (show Int.gcd a b∣a.natAbs from X8 a.natAbs b.natAbs);omega
 .have:=Nat.le_of_dvd o_ (show Int.gcd a b∣b.natAbs from Xm a.natAbs b.natAbs);omega
def SF{x y:Int}(hy:y≠0):(x.tmod y).natAbs<y.natAbs:=by rw[Yj];exact Nat.mod_lt _ o_
def nt(a b:Int)(ha:0<=a/\a<=9000000000000000000)(hb:0<=b/\b<=9000000000000000000)(w:World):
 Rw 169 #[a,b] w (ar a b):=by
 go_enter Tryz.func169,Tryz.ntmps169;go_wp2;go_loop [0,1] (λx y=>∃c d:Int,x=.int .i64 c/\y=.int .i64 d/\(0<=c/\c<=9000000000000000000)/\(0<=d/\d<=9000000000000000000)/\Hid (ar c d=ar a b)) (λ_ y=>(intOf y).toNat)
 case atStart=>exact⟨a,b,rfl,rfl,ha,hb,rfl⟩
 case round=>
  obtain⟨c,d,rfl,rfl,hc,hd,H⟩:=hrel;by_cases h0:d=0
  .subst h0;have HE:Hid (ar a b=c):=by show _=_;rw[<-H.out,CB];omega
   clear H;go_wp2;go_ret;exact⟨by rw[HE.out];rfl,rfl⟩
  .have e:=Vv (b:=d) hc.1;have HE:Hid (ar d (c % d)=ar a b):=by show _=_;rw[<-e,Ci];exact H.out
   have b1:=UU c h0;have b2:=UO c (show 0<d by omega);have bZ:(d==0)=false:=by simpa using h0
   clear H e;go_wp2;go_round
   case rel=>exact⟨d,c % d,rfl,rfl,by omega,by omega,HE⟩
   case measure=>exact aO
def nX(a b:Int)(ha:-9000000000000000000<=a/\a<=9000000000000000000)(hb:-9000000000000000000<=b/\b<=9000000000000000000)(w:World):
 Kp 64 #[a,b] w λe w'=>e=.returned (ar a b)/\∃k,w'=w.drewN k:=by
 go_enter Tryz.func64,Tryz.ntmps64;go_wp2;go_loopw [0,1] (λx y wr=>∃c d:Int,x=.int .i64 c/\y=.int .i64 d/\(-9000000000000000000<=c/\c<=9000000000000000000)/\(-9000000000000000000<=d/\d<=9000000000000000000)/\Hid (ar c d=ar a b)/\∃k,wr=w.drewN k) (λ_ y _=>(intOf y).natAbs)
 case atStart=>exact⟨a,b,rfl,rfl,ha,hb,rfl,0,rfl⟩
 case round=>
  obtain⟨c,d,rfl,rfl,hc,hd,H,k,rfl⟩:=hrel;by_cases h0:d=0
  .subst h0;have HE:Hid (ar a b=c.natAbs):=by show _=_;rw[<-H.out,CB]
   clear H;rcases UF c 0 with hs|hs
   .have hm:(c.natAbs:Int)=-c:=o_;go_wp2;go_ret;exact⟨by rw[HE.out,hm];simp,k,rfl⟩
   .have hm:(c.natAbs:Int)=c:=o_;go_wp2;go_ret;exact⟨by rw[HE.out,hm];simp,k,rfl⟩
  .have HE:Hid (ar d (c.tmod d)=ar a b):=by show _=_;rw[Ci];exact H.out
   have b1:=SF (x:=c) h0;have bZ:(d==0)=false:=by simpa using h0
   clear H;go_wp2
   go_region
   all_goals go_wp2
   all_goals
    go_roundw
    case rel=>exact⟨d,c.tmod d,by go_num,by go_num,by omega,by omega,HE,k+1,rfl⟩
    case measure=>exact b1
def bJ(n d:Int):Bool:=av d 1 1000000000&&av n (-1000000000) 1000000000&&ar n d==1
def bE(n d:Int):Int:=if d<0 then -ar n d else ar n d
def bc(n d:Int):Int:=n.tdiv (bE n d)
def aN(n d:Int):Int:=d.tdiv (bE n d)
def ks(n d:Int):Bool:=bJ (bc n d) (aN n d)
def jK{n d:Int}(h:bJ n d=true):(1<=d/\d<=1000000000)/\(-1000000000<=n/\n<=1000000000):=by
 exact FA
def Dp(a b:Int):ar a.natAbs b.natAbs=ar a b:=by simp [ar,Int.gcd]
def CD(a b:Int):ar a.natAbs b=ar a b:=by simp [ar,Int.gcd]
def mJ(n g:Int):(n.tdiv g).natAbs<=n.natAbs:=by rw[Yi];exact Yl _ _
def mS(n d:Int)(w:World):
 Rv 109 #[.agg #[n,d]] w (.bool (bJ n d)):=by
 unfold bJ;cases h1:av d 1 1000000000
 .go_enter Tryz.func109,Tryz.ntmps109;go_wp2
  go_quiet ((go_at_call 104;refine Calls.quiet_of_same ((cw _ _ _ _).mono λ_ _ h=>⟨h.1.trans (by rw[h1]),h.2.symm⟩)))
  all_goals go_wp2
  all_goals
   exact ij
 .cases h2:av n (-1000000000) 1000000000
  .go_enter Tryz.func109,Tryz.ntmps109;go_wp2
   go_quiet (first|(go_at_call 104;refine Calls.quiet_of_same ((cw _ _ _ _).mono λ_ _ h=>⟨h.1.trans (by rw[h1]),h.2.symm⟩))|(go_at_call 104;refine Calls.quiet_of_same ((cw _ _ _ _).mono λ_ _ h=>⟨h.1.trans (by rw[h2]),h.2.symm⟩)))
   all_goals go_wp2
   all_goals
    exact ij
  .have b1:=bH h1;have b2:=bH h2;have HG:=h_ (CD n d);rw[<-HG.out];go_enter Tryz.func109,Tryz.ntmps109;go_wp2
   go_quiet (first|(go_at_call 104;refine Calls.quiet_of_same ((cw _ _ _ _).mono λ_ _ h=>⟨h.1.trans (by rw[h1]),h.2.symm⟩))|(go_at_call 104;refine Calls.quiet_of_same ((cw _ _ _ _).mono λ_ _ h=>⟨h.1.trans (by rw[h2]),h.2.symm⟩))|(go_at_call 113;refine Calls.quiet_of_same ((lk _ o_ _).mono λ_ _ h=>⟨h.1,h.2.symm⟩))|(go_at_call 169;refine Calls.quiet_of_same ((nt _ _ o_ o_ _).mono λ_ _ h=>⟨h.1,h.2.symm⟩)))
   all_goals go_wp2
   all_goals
    exact ij
def nq(n d:Int)(w:World):
 Rv 149 #[.agg #[n,d]] w (.bool (bJ n d)):=by
 unfold bJ;cases h1:av d 1 1000000000
 .exact JF
 .cases h2:av n (-1000000000) 1000000000
  .exact JF
  .have b1:=bH h1;have b2:=bH h2;go_enter Tryz.func149,Tryz.ntmps149;go_wp2_with (first|(go_at_call 63;refine ay (cR _ _ _ _) ?_)|(go_at_call 64;refine (nX _ _ o_ o_ _).mono ?_;rintro e w' ⟨rfl,V,rfl⟩))
   exact ij
def xQ{n d:Int}(hd:d≠0)(hn:iO n)(K:iO d):
 bE n d≠0/\(1<=ar n d/\ar n d<=4000000000000000000)/\(-4000000000000000000<=bc n d/\bc n d<=4000000000000000000)/\(-4000000000000000000<=aN n d/\aN n d<=4000000000000000000):=by
 obtain⟨g1,_,g2⟩:=nL n d (.inr hd);have g3:=g2 hd;have a1:=mJ n (bE n d);have a2:=mJ d (bE n d);refine⟨by unfold bE;split<;>omega,by omega,?_,?_⟩
 .unfold bc;omega
 .unfold aN;omega
def jA(n d:Int):Bool:=!(d==0)&&ks n d
def gN(o:Bool)(A:Int):Int:=if o then A else 0
def qD(n d:Int)(hn:iO n)(K:iO d)(w:World):
 Rv 293 #[n,d] w (.tuple #[.agg #[gN (jA n d) (bc n d),gN (jA n d) (aN n d)],.bool (jA n d)]):=by
 unfold jA;cases h0:(d==0)
 .have hd:d≠0:=by simpa using h0
  obtain⟨f1,f2,f3,f4⟩:=xQ hd hn K;have HA:=h_ (Dp n d);have HN:Hid (n.tdiv (bE n d)=bc n d):=rfl;have HD:Hid (d.tdiv (bE n d)=aN n d):=rfl;have ab:-4000000000000000000<=n.tdiv (bE n d)/\n.tdiv (bE n d)<=4000000000000000000:=f3;have aa:-4000000000000000000<=d.tdiv (bE n d)/\d.tdiv (bE n d)<=4000000000000000000:=f4;have ac:(bE n d==0)=false:=by simpa using f1
  have HO:Hid (ks n d=bJ (n.tdiv (bE n d)) (d.tdiv (bE n d))):=rfl;show Kp 293 _ w λe w'=>e=.returned (.tuple #[.agg #[gN (ks n d) (bc n d),gN (ks n d) (aN n d)],.bool (ks n d)])/\Below w.heap.size w w';rw[HO.out,<-HN.out,<-HD.out];have hG:(d<0/\bE n d=-ar n d)\/(0<=d/\bE n d=ar n d):=by unfold bE;split<;>omega
  clear HN HD HO hd;generalize bE n d=g at *;obtain⟨q1,q2,q3,q4⟩:((w.alloc (.cells #[.int .i64 0,.int .i64 0] 96)).cell? ⟨w.heap.size,0,none⟩=some (.int .i64 0))/\((w.alloc (.cells #[.int .i64 0,.int .i64 0] 96)).cell? ⟨w.heap.size,1,none⟩=some (.int .i64 0))/\((w.alloc (.cells #[.int .i64 0,.int .i64 0] 96)).frozen? ⟨w.heap.size,0,none⟩=false)/\((w.alloc (.cells #[.int .i64 0,.int .i64 0] 96)).frozen? ⟨w.heap.size,1,none⟩=false):=⟨by simp [go_sem],by simp [go_sem],by simp [go_sem],by simp [go_sem]⟩
  have J:Below w.heap.size w (w.alloc (.cells #[(),()] 96)):=(Uk _ _).alloc (Ug _) _;have bi:w.heap.size<(w.alloc (.cells #[(),()] 96)).heap.size:=s_;rcases hG with ⟨hs,hg⟩|⟨hs,hg⟩
  all_goals
   cases Z:bJ (n.tdiv g) (d.tdiv g)
   .go_enter Tryz.func293,Tryz.ntmps293;go_wp2_with (first|(go_at_call 113;refine (lk _ o_ _).mono ?_;rintro e w' ⟨rfl,rfl⟩)|(go_at_call 169;refine (nt _ _ o_ o_ _).mono ?_;rintro e w' ⟨rfl,rfl⟩;rw[HA.out]))
    rw[<-hg];clear hg;generalize w.alloc (.cells #[(),()] 96)=W at *;have U:Bx w.heap.size () (.int .i64 0) W:=⟨q1,q2,q3,q4,bi⟩
    go_region
    all_goals go_wp2_with fail
    all_goals
     (go_at_call 109;refine ai (mS _ _ _) λw1 I=>?_;obtain⟨aZ,a6⟩:=bf I;have ax:=I.size;(try simp only[Uq] at ax);(try (have F:w.heap.size<w1.heap.size:=by omega));(try (have a9:=Ul ax));(try (have bs:=Ul (Uo a9))))
     obtain⟨x1,x2,x3,x4,x5⟩:=Bx.below (Bx.alloc' (Bx.drew U) _) I;go_wp2;refine Uh (v:=.tuple #[.agg #[(),()],false]) F9 rfl ⟨rfl,?_⟩;exact z_
   .go_enter Tryz.func293,Tryz.ntmps293;go_wp2_with (first|(go_at_call 113;refine (lk _ o_ _).mono ?_;rintro e w' ⟨rfl,rfl⟩)|(go_at_call 169;refine (nt _ _ o_ o_ _).mono ?_;rintro e w' ⟨rfl,rfl⟩;rw[HA.out]))
    rw[<-hg];clear hg;generalize w.alloc (.cells #[(),()] 96)=W at *;have U:Bx w.heap.size () (.int .i64 0) W:=⟨q1,q2,q3,q4,bi⟩
    go_region
    all_goals go_wp2_with fail
    all_goals
     (go_at_call 109;refine ai (mS _ _ _) λw1 I=>?_;obtain⟨aZ,a6⟩:=bf I;have ax:=I.size;(try simp only[Uq] at ax);(try (have F:w.heap.size<w1.heap.size:=by omega));(try (have a9:=Ul ax));(try (have bs:=Ul (Uo a9))))
     obtain⟨x1,x2,x3,x4,x5⟩:=Bx.below (Bx.alloc' (Bx.drew U) _) I;go_wp2;refine Uh (v:=.tuple #[.agg #[(n.tdiv g:Int),(d.tdiv g:Int)],true]) F9 rfl ⟨rfl,?_⟩;exact z_
 .obtain rfl:d=0:=by simpa using h0
  go_enter Tryz.func293,Tryz.ntmps293;go_wp2;refine Uh (v:=.tuple #[.agg #[(),()],false]) (by simp [results,Tryz.results293,go_sem]) rfl ⟨rfl,?_⟩;exact z_
def qj(n d:Int)(hd:d≠0)(hn:iO n)(K:iO d)(w:World):
 Rv 271 #[n,d] w (.tuple #[.agg #[gN (jA n d) (bc n d),gN (jA n d) (aN n d)],.bool (jA n d)]):=by
 unfold jA;have h0:(d==0)=false:=by simpa using hd
 rw[h0]
 .skip
  obtain⟨f1,f2,f3,f4⟩:=xQ hd hn K;have HN:Hid (n.tdiv (bE n d)=bc n d):=rfl;have HD:Hid (d.tdiv (bE n d)=aN n d):=rfl;have ab:-4000000000000000000<=n.tdiv (bE n d)/\n.tdiv (bE n d)<=4000000000000000000:=f3;have aa:-4000000000000000000<=d.tdiv (bE n d)/\d.tdiv (bE n d)<=4000000000000000000:=f4;have ac:(bE n d==0)=false:=by simpa using f1
  have HO:Hid (ks n d=bJ (n.tdiv (bE n d)) (d.tdiv (bE n d))):=rfl;show Kp 271 _ w λe w'=>e=.returned (.tuple #[.agg #[gN (ks n d) (bc n d),gN (ks n d) (aN n d)],.bool (ks n d)])/\Below w.heap.size w w';rw[HO.out,<-HN.out,<-HD.out];have hG:(d<0/\bE n d=-ar n d)\/(0<=d/\bE n d=ar n d):=by unfold bE;split<;>omega
  clear HN HD HO hd;generalize bE n d=g at *;obtain⟨q1,q2,q3,q4⟩:((w.alloc (.cells #[.int .i64 0,.int .i64 0] 96)).cell? ⟨w.heap.size,0,none⟩=some (.int .i64 0))/\((w.alloc (.cells #[.int .i64 0,.int .i64 0] 96)).cell? ⟨w.heap.size,1,none⟩=some (.int .i64 0))/\((w.alloc (.cells #[.int .i64 0,.int .i64 0] 96)).frozen? ⟨w.heap.size,0,none⟩=false)/\((w.alloc (.cells #[.int .i64 0,.int .i64 0] 96)).frozen? ⟨w.heap.size,1,none⟩=false):=⟨by simp [go_sem],by simp [go_sem],by simp [go_sem],by simp [go_sem]⟩
  have J:Below w.heap.size w (w.alloc (.cells #[(),()] 96)):=(Uk _ _).alloc (Ug _) _;have bi:w.heap.size<(w.alloc (.cells #[(),()] 96)).heap.size:=s_;rcases hG with ⟨hs,hg⟩|⟨hs,hg⟩
  all_goals
   cases Z:bJ (n.tdiv g) (d.tdiv g)
   .go_enter Tryz.func271,Tryz.ntmps271;go_wp2_with fail
    (go_at_call 64;refine (nX _ _ o_ o_ _).mono ?_;rintro e w' ⟨rfl,V,rfl⟩)
    go_wp2;rw[<-hg];clear hg;generalize w.alloc (.cells #[(),()] 96)=G at *;obtain⟨W,H⟩:∃W,W=G.drewN V:=⟨_,rfl⟩
    have q1:W.cell? ⟨w.heap.size,0,none⟩=some (.int .i64 0):=by rw[H];exact q1
    have q2:W.cell? ⟨w.heap.size,1,none⟩=some (.int .i64 0):=by rw[H];exact q2
    have q3:W.frozen? ⟨w.heap.size,0,none⟩=false:=by rw[H];exact q3
    have q4:W.frozen? ⟨w.heap.size,1,none⟩=false:=by rw[H];exact q4
    have bi:w.heap.size<W.heap.size:=by rw[H];exact bi
    have J:Below w.heap.size w W:=by rw[H];exact lN J _
    rw[<-H];clear H;have U:Bx w.heap.size () (.int .i64 0) W:=⟨q1,q2,q3,q4,bi⟩
    go_region
    all_goals go_wp2_with fail
    all_goals
     (go_at_call 149;refine ai (nq _ _ _) λw1 I=>?_;obtain⟨aZ,a6⟩:=bf I;have ax:=I.size;(try simp only[Uq] at ax);(try (have F:w.heap.size<w1.heap.size:=by omega));(try (have a9:=Ul ax));(try (have bs:=Ul (Uo a9))))
     obtain⟨x1,x2,x3,x4,x5⟩:=Bx.below (Bx.alloc' (Bx.drew U) _) I;go_wp2;refine Uh (v:=.tuple #[.agg #[(),()],false]) FV rfl ⟨rfl,?_⟩;exact z_
   .go_enter Tryz.func271,Tryz.ntmps271;go_wp2_with fail
    (go_at_call 64;refine (nX _ _ o_ o_ _).mono ?_;rintro e w' ⟨rfl,V,rfl⟩)
    go_wp2;rw[<-hg];clear hg;generalize w.alloc (.cells #[(),()] 96)=G at *;obtain⟨W,H⟩:∃W,W=G.drewN V:=⟨_,rfl⟩
    have q1:W.cell? ⟨w.heap.size,0,none⟩=some (.int .i64 0):=by rw[H];exact q1
    have q2:W.cell? ⟨w.heap.size,1,none⟩=some (.int .i64 0):=by rw[H];exact q2
    have q3:W.frozen? ⟨w.heap.size,0,none⟩=false:=by rw[H];exact q3
    have q4:W.frozen? ⟨w.heap.size,1,none⟩=false:=by rw[H];exact q4
    have bi:w.heap.size<W.heap.size:=by rw[H];exact bi
    have J:Below w.heap.size w W:=by rw[H];exact lN J _
    rw[<-H];clear H;have U:Bx w.heap.size () (.int .i64 0) W:=⟨q1,q2,q3,q4,bi⟩
    go_region
    all_goals go_wp2_with fail
    all_goals
     (go_at_call 149;refine ai (nq _ _ _) λw1 I=>?_;obtain⟨aZ,a6⟩:=bf I;have ax:=I.size;(try simp only[Uq] at ax);(try (have F:w.heap.size<w1.heap.size:=by omega));(try (have a9:=Ul ax));(try (have bs:=Ul (Uo a9))))
     obtain⟨x1,x2,x3,x4,x5⟩:=Bx.below (Bx.alloc' (Bx.drew U) _) I;go_wp2;refine Uh (v:=.tuple #[.agg #[(n.tdiv g:Int),(d.tdiv g:Int)],true]) FV rfl ⟨rfl,?_⟩;exact z_
def mq(h:P:=by cases h):=h
def qv{w w1:World}{G e size n:Nat}{v}{xs}(h:w.ownsRow G e size v n xs)(hb:Below w w w1):w1.ownsRow G e size v n xs:=by
 exact vP
def ur{w:World}{G base' e size n:Nat}{v}{xs}(h:w.ownsRow G e size v n xs)(hb:base'<=G):w.ownsRow base' e size v n xs:=
 ⟨h.1,h.2.elim Or.inl (λ⟨g,F,aM,hv,hg,r⟩=>Or.inr ⟨g,F,aM,hv,Ui hb hg,r⟩)⟩
def mN{ex:List Nat}{w w1}{G e size n:Nat}{v}{xs}(h:w.ownsRow G e size v n xs)(Z:ah ex w w1)(hn:∀k,v.ownBlock=some k->k∉ex):w1.ownsRow G e size v n xs:=by
 exact I0
def fH{w:World}{G e size n:Nat}{v}{xs}(h:w.ownsRow G e size v n xs):∀k,v.ownBlock=some k->G<=k/\k<w.heap.size:=U9 h
def nD{w:World}{G e size n:Nat}{v}{xs}(h:w.ownsRow G e size v n xs):
 ∃(a:bT) (F:Nat),v=.slice a n F/\n<=F/\(∀i (_:i<n),∃g,a=some ⟨g,0,none⟩/\g<w.heap.size/\G<=g/\(∀o,w.frozen? ⟨g,o,none⟩=false)/\(∀k u,k<size->xs[i*size+k]?=some u->w.cell? ⟨g,i*size+k,none⟩=some u)):=by
 rcases h.2 with ⟨hv,hn⟩|⟨g,F,aM,hv,hg,hh,aL,_,_,ht⟩
 .exact zY
 .refine⟨some ⟨g,0,none⟩,F,hv,aL,λi hi=>⟨g,rfl,(Uv.1 hh).1,hg,λo=>by simp [World.frozen?,hh],λk u hk hu=>?_⟩⟩;have aG:i*size+k<n*size:=by
   have:(i+1)*size<=n*size:=Vy _ o_;rw[WM] at this;omega
  have h4:(aM.toList.take (n*size))[i*size+k]?=aM.toList[i*size+k]?:=UR aG;exact Hw
def qM{w}{G e size n:Nat}{v}{xs}(h:w.ownsRow G e size v n xs):∀k,v.ownBlock=some k->∃aM,ag k aM e w:=by
 intro k hk;rcases h.2 with ⟨hv,_⟩|⟨g,F,aM,hv,hg,hh,_⟩
 .rw[hv] at hk;cases hk
 .rw[hv] at hk;injection hk with hk;exact⟨aM,hk▸hh⟩
def Cz(w:World)(e size:Nat)(I)(hs:I.length=size):(w.alloc (.cells I.toArray e)).ownsRow w e size (.slice w 1 1) 1 I:=by
 refine⟨by omega,.inr ⟨w,1,I.toArray,rfl,Ug _,?_,?_,?_,?_,?_⟩⟩
 .exact ag.new w _ _
 .omega
 .unfold maxLen;omega
 .simp [hs]
 .simp [<-hs]
def Bw{ops}{rest}{o}{a}{Q}{wr}(e tS size bytes:Nat)(z)(aa:o.guard=none)(s x)
 (Z:o.op=.call {callee:=.builtin .append,args:=#[s,x],argTypes:=#[tS,tS]})(K:(Tryz.prog.info? e).map (λi=>(i.zero,i.size,i.bytes))=some (some z,size,bytes))(ht:Tryz.prog.underlying tS=some (.slice e))(I:z.cells.size=size)(a6:0<size)(ab:bytes<=1000)
 (G)(v)(n)(L)(hs:a.eval s=v)(V:wr.ownsRow G e size v n L)(F)(ad:F.length=size)(h1:∀u∈F,u.oneCell'=true)(hx:a.eval x=.slice wr 1 1)
 (ac:n<1000000)(U:G<=wr.heap.size)
 (h:∀v' w1,w1.ownsRow G e size v' (n+1) (L++F)->ah v.ownBlock.toList wr w1->Below G wr w1->(v'.ownBlock=v.ownBlock\/∃k,v'.ownBlock=some k/\wr.heap.size<=k)->wpList Tryz.prog ops Q rest (a.put o.dst v') w1):
 wpList Tryz.prog ops Q (o::rest) a (wr.alloc (.cells F.toArray e)):=by
 have⟨i0,hi,bi,ax,a8⟩:=VE K;refine wpList_append_own_at _ aa s x tS Z G e i0 z size bytes ht hi bi ax a8 I a6 v n L hs (Wk V _) ⟨wr,0,none⟩ 1 1 F hx o_ ?_ h1 ?_ ?_ ?_ ?_
 .intro j u hj;rw[show (⟨wr,0,none⟩:Addr).add j=⟨wr,j,none⟩ by simp [Addr.add];omega];rw[((ag.new wr F.toArray e).cell j)];simpa using hj
 .unfold maxLen;omega
 .have:(n+1)*bytes<=1000000*1000:=V5 o_ ab;omega
 .simp;omega
 .intro v' w1 J H _ bp;refine h v' w1 J ?_ ?_ (bp.imp id λh=>⟨_,h,by simp⟩)
  .have ha:=(Uk wr wr).alloc (Ug _) (.cells F.toArray e);exact IL
  .exact E0
def Gx(h:P:=by simp [results,Tryz.results152,go_sem,q3,q4]):=h
def GQ(h:P:=by simp [results,Tryz.results72,go_sem,q3,q4]):=h
def Gj(h:P:=by simp [results,Tryz.results161,go_sem,aZ]):=h
def Fy(h:P:=by
 refine Uh (v:=.tuple #[.agg #[(),()],false]) GQ rfl ⟨rfl,?_⟩;exact z_):=h
def uo(w:World)(r o:Nat):Value:=(w.cell? ⟨r,o,none⟩).getD false
def td{w}{r o}(h:(w.cell? ⟨r,o,none⟩).isSome=true):w.cell? ⟨r,o,none⟩=some (uo w r o):=by
 unfold uo;have⟨x,hx⟩:=VV.1 h;rw[hx];rfl
def S9(w:World)(n r:Nat)(a b:Value)(w':World):Prop:=
 w'.cell? n=some a/\w'.cell? ⟨n,1,none⟩=some b/\w'.cell? r=some (uo w' r 0)/\w'.cell? ⟨r,1,none⟩=some (uo w' r 1)/\
 w'.frozen? ⟨r,0,none⟩=false/\w'.frozen? ⟨r,1,none⟩=false/\n<r/\r<w'.heap.size/\w.heap.size<=n/\Below w w w'
section
variable {w W w1:World}{n r:Nat}{a b:Value}
def S9.below(h:S9 w n r a b W)(hb:Below W W w1):S9 w n r a b w1:=by
 have⟨h1,h2,h3,h4,h5,h6,h0,h7,h8,h9⟩:=h;have hc:=λb o ax=>hb.cell (p:=⟨b,o,none⟩) ax;have hf:=λb o ax=>hb.frozen (p:=⟨b,o,none⟩) ax;exact⟨(hc n 0 (by show n<_;omega)).trans h1,(hc n 1 (by show n<_;omega)).trans h2,td (by rw[hc r 0 h7,h3];rfl),td (by rw[hc r 1 h7,h4];rfl),(hf r 0 h7).trans h5,(hf r 1 h7).trans h6,h0,Un h7 hb.size,h8,h9.trans (hb.mono o_)⟩
end
def S9.new2(w)(a b x y)(t g):S9 w w (w.heap.size+1) a b ((w.alloc (.cells #[a,b] t)).alloc (.cells #[x,y] g)):=
 ⟨by simp [go_sem],by simp [go_sem],td (by simp [go_sem]),td (by simp [go_sem]),by simp [go_sem],by simp [go_sem],by simp,by simp,Ug _,((Uk _ _).alloc (Ug _) _).alloc s_ _⟩
def vh{A v}(b)(hA:-b<=A/\A<=b)(_:0<=b)(hv:1<=v/\v<=5):
 (-(b*5)<=A*v/\A*v<=b*5)/\(-(b*25)<=A*v*v/\A*v*v<=b*25)/\(-(b*125)<=A*v*v*v/\A*v*v*v<=b*125)/\(-(b*625)<=A*v*v*v*v/\A*v*v*v*v<=b*625)/\
 (-(b*3125)<=A*v*v*v*v*v/\A*v*v*v*v*v<=b*3125)/\(-(b*15625)<=A*v*v*v*v*v*v/\A*v*v*v*v*v*v<=b*15625):=by
 have h1:=aJ (x:=A) (y:=v) b 5 hA o_;have h2:=aJ (x:=A*v) (y:=v) (b*5) 5 o_ o_;have h3:=aJ (x:=A*v*v) (y:=v) (b*25) 5 o_ o_;have h4:=aJ (x:=A*v*v*v) (y:=v) (b*125) 5 o_ o_;have h5:=aJ (x:=A*v*v*v*v) (y:=v) (b*625) 5 o_ o_;have h6:=aJ (x:=A*v*v*v*v*v) (y:=v) (b*3125) 5 o_ o_;omega
def AY(A B:Int)(w):
 Rv 161 #[.agg #[A,B]] w (.tuple #[.agg #[rs (be A B) A,rs (be A B) B],.bool (be A B)]):=by
 cases h1:be A B
 .go_enter Tryz.func161,Tryz.ntmps161;go_wp2_with ((go_at_call 62;refine ai (jG _ _ _) λw1 I=>?_;obtain⟨aZ,a6⟩:=bf I))
  refine Uh (v:=.tuple #[.agg #[(),()],false]) Gj rfl ⟨rfl,?_⟩;exact z_
 .go_enter Tryz.func161,Tryz.ntmps161;go_wp2_with ((go_at_call 62;refine ai (jG _ _ _) λw1 I=>?_;obtain⟨aZ,a6⟩:=bf I))
  refine Uh (v:=.tuple #[.agg #[A,B],true]) Gj rfl ⟨rfl,?_⟩;exact z_
def QY(A B v)(hC:be A B=true)(hv:av v 1 5=true)(w):
 Rv 72 #[.agg #[A,B],v] w (.tuple #[.agg #[(rs (be (A*v*v*v*v) (B*v*v*v*v*v*v)) (A*v*v*v*v):Int),(rs (be (A*v*v*v*v) (B*v*v*v*v*v*v)) (B*v*v*v*v*v*v):Int)],.bool (be (A*v*v*v*v) (B*v*v*v*v*v*v))]):=by
 have hb:=fe hC;have hu:=bH hv;have⟨a1,a2,a3,a4,_,_⟩:=vh 1000 hb.1 o_ hu;have⟨b1,b2,b3,b4,b5,b6⟩:=vh 10000 hb.2 o_ hu;cases h1:be (A*v*v*v*v) (B*v*v*v*v*v*v)
 .go_enter Tryz.func72,Tryz.ntmps72;go_wp2_with ((go_at_call 104;refine ay (cw _ _ _ _) ?_))
  (go_at_call 71;refine ai (fP _ _ _) λw1 I=>?_;obtain⟨aZ,a6⟩:=bf I;have ax:=I.size;(try simp only[Uq] at ax);(try (have F:w.heap.size<w1.heap.size:=by omega));(try (have a9:=Ul ax));(try (have bs:=Ul (Uo a9))))
  go_wp2_with ((go_at_call 104;refine ay (cw _ _ _ _) ?_))
  (go_at_call 71;refine ai (fP _ _ _) λw2 U=>?_;obtain⟨bo,bq⟩:=bf U;have a8:=U.size;(try simp only[Uq] at a8);(try (have aG:w.heap.size<w2.heap.size:=by omega));(try (have ac:=Ul a8));(try (have ab:=Ul (Uo ac)));(try (have aa:w1.heap.size<w2.heap.size:=by omega)))
  go_wp2;have⟨_,_,q3,q4,_⟩:=(((S9.new2 w (.int .i64 A) (.int .i64 B) (.int .i64 0) (.int .i64 0) 42 42).below I).below ((Uk _ _).alloc (Ug _) _)).below U;exact Fy
 .go_enter Tryz.func72,Tryz.ntmps72;go_wp2_with ((go_at_call 104;refine ay (cw _ _ _ _) ?_))
  (go_at_call 71;refine ai (fP _ _ _) λw1 I=>?_;obtain⟨aZ,a6⟩:=bf I;have ax:=I.size;(try simp only[Uq] at ax);(try (have F:w.heap.size<w1.heap.size:=by omega));(try (have a9:=Ul ax));(try (have bs:=Ul (Uo a9))))
  go_wp2_with ((go_at_call 104;refine ay (cw _ _ _ _) ?_))
  (go_at_call 71;refine ai (fP _ _ _) λw2 U=>?_;obtain⟨bo,bq⟩:=bf U;have a8:=U.size;(try simp only[Uq] at a8);(try (have aG:w.heap.size<w2.heap.size:=by omega));(try (have ac:=Ul a8));(try (have ab:=Ul (Uo ac)));(try (have aa:w1.heap.size<w2.heap.size:=by omega)))
  go_wp2;have⟨_,_,q3,q4,_⟩:=(((S9.new2 w (.int .i64 A) (.int .i64 B) (.int .i64 0) (.int .i64 0) 42 42).below I).below ((Uk _ _).alloc (Ug _) _)).below U;refine Uh (v:=.tuple #[.agg #[(A*v*v*v*v:Int),(B*v*v*v*v*v*v:Int)],true]) GQ rfl ⟨rfl,?_⟩;exact z_
def Ra(A B v)(hC:be A B=true)(hv:av v 1 5=true)(w):
 Rv 152 #[.agg #[A,B],v] w (.tuple #[.agg #[(rs (be (A*v*v*v*v) (B*v*v*v*v*v*v)) (A*v*v*v*v):Int),(rs (be (A*v*v*v*v) (B*v*v*v*v*v*v)) (B*v*v*v*v*v*v):Int)],.bool (be (A*v*v*v*v) (B*v*v*v*v*v*v))]):=by
 have hb:=fe hC;have hu:=bH hv;have⟨a1,a2,a3,a4,_,_⟩:=vh 1000 hb.1 o_ hu;have⟨b1,b2,b3,b4,b5,b6⟩:=vh 10000 hb.2 o_ hu;go_enter Tryz.func152,Tryz.ntmps152;go_wp2_with ((go_at_call 63;refine ay (cR _ _ _ _) ?_))
 (go_at_call 62;refine ai (jG _ _ _) λw1 I=>?_;obtain⟨aZ,a6⟩:=bf I;have ax:=I.size;(try simp only[Uq] at ax);(try (have a9:=Ul ax));(try (have bs:=Ul (Uo a9))))
 go_wp2_with ((go_at_call 63;refine ay (cR _ _ _ _) ?_))
 (go_at_call 161;refine ai (AY _ _ _) λw2 U=>?_;obtain⟨bo,bq⟩:=bf U;have a8:=U.size;(try simp only[Uq] at a8);(try (have aG:w.heap.size<w2.heap.size:=by omega));(try (have ac:=Ul a8));(try (have ab:=Ul (Uo ac)));(try (have aa:w1.heap.size<w2.heap.size:=by omega)))
 go_wp2;have⟨_,_,q3,q4,_⟩:=(((S9.new2 w (.int .i64 A) (.int .i64 B) (.int .i64 0) (.int .i64 0) 42 42).below I)).below U;refine Uh (v:=.tuple #[.agg #[(rs (be (A*v*v*v*v) (B*v*v*v*v*v*v)) (A*v*v*v*v):Int),(rs (be (A*v*v*v*v) (B*v*v*v*v*v*v)) (B*v*v*v*v*v*v):Int)],.bool (be (A*v*v*v*v) (B*v*v*v*v*v*v))]) Gx rfl ⟨rfl,?_⟩;exact z_
def Aq{w W w1}{b B:Nat}{v0 v1}(h:W.cell? b=some v0/\W.cell? ⟨b,1,none⟩=some v1/\b<W.heap.size/\B<=W.heap.size/\Below B w W)(hb:Below W W w1):
 w1.cell? b=some v0/\w1.cell? ⟨b,1,none⟩=some v1/\b<w1.heap.size/\B<=w1.heap.size/\Below B w w1:=
 ⟨(hb.cell (p:=b) h.2.2.1).trans h.1,(hb.cell (p:=⟨b,1,none⟩) h.2.2.1).trans h.2.1,Un h.2.2.1 hb.size,Ui h.2.2.2.1 hb.size,h.2.2.2.2.trans (hb.mono h.2.2.2.1)⟩
def EC{w W}{b B n:Nat}{v0 v1}(h:W.cell? b=some v0/\W.cell? ⟨b,1,none⟩=some v1/\b<W.heap.size/\B<=W.heap.size/\Below B w W):
 (W.drewN n).cell? b=some v0/\(W.drewN n).cell? ⟨b,1,none⟩=some v1/\b<(W.drewN n).heap.size/\B<=(W.drewN n).heap.size/\Below B w (W.drewN n):=
 ⟨h.1,h.2.1,h.2.2.1,h.2.2.2.1,lN h.2.2.2.2 n⟩
def DX{k:IntKind}{a b}(h:a=b):Ending.returned (.int k a)=.returned (.int k b):=by rw[h]
def Td(a p:Int)(h:1<=p):0<=a % p/\a % p<p:=⟨UU _ o_,UO _ o_⟩
section
variable {P:Program}{ops:Array Oper}{Q:Exit->Act->au}
def Mc{l:List Bool}{i}(h:l[i]?=some false):(l.set i true).count false+1=l.count false:=by
 induction l generalizing i with
 |nil=>simp at h
 |cons b l g=>
  cases i with
  |zero=>
   simp at h;subst h;simp
  |succ i=>
   have:=g (i:=i) kj;cases b<;>simp at this ⊢<;>omega
def fS(ops:Array Oper)(i:Nat):List Nat:=match ops[i]? with
 |some o=>(o.after.toList.filter (Region.binds .any ·)).map (·.on)
 |none=>[]
def mn(ops:Array Oper):Nat->List (List Nat)
 |0=>[]
 |k+1=>let t:=mn ops k;t++[(fS ops k++(fS ops k).flatMap λd=>t.getD d []).eraseDups]
def yL(ops:Array Oper)(fl:List Bool):Bool:=
 decide (fl.length=ops.size)&&(List.range ops.size).all λi=>
  (fS ops i).all (λd=>decide (d<i))&&(if fl.getD i false then (fS ops i).all (λd=>fl.getD d false) else (List.range ops.size).all λj=>!fl.getD j false||((mn ops ops.size).getD i []).contains j)
theorem ta(ops):∀k,(mn ops k).length=k
 |0=>rfl
 |k+1=>by simp [mn,ta ops k]
theorem BE(ops)(k):∀m i,i<k->(mn ops (k+m)).getD i []=(mn ops k).getD i []
 |0,_,_=>rfl
 |m+1,i,h=>by
  have:=BE ops k m i h;rw[<-this,show k+(m+1)=(k+m)+1 by omega,mn];simp;rw[VI (by rw[ta];omega)]
def Sn(ops:Array Oper)(L:Nat->Prop):Prop:=∀i,L i->∀d∈fS ops i,L d
def Py{L:Nat->Prop}(hL:Sn ops L):∀k i,i<k->(∀d∈fS ops i,d<i)->(∀i'<i,∀d∈fS ops i',d<i')->(∀d∈fS ops i,L d)->∀j∈(mn ops k).getD i [],L j:=by
 intro k
 induction k with
 |zero=>intro i h;omega
 |succ k g=>
  intro i hi hd K hl j hj;by_cases cu:i<k
  .rw[BE ops k 1 i cu] at hj;exact g i cu hd K hl j hj
  .obtain rfl:i=k:=by omega
   rw[mn] at hj;simp at hj;rw[Vk (by rw[ta];omega)] at hj;rw[ta] at hj;simp at hj;rcases hj with hj|⟨d,H,hj⟩
   .exact hl j hj
   .refine g d (hd d H) (K d (hd d H)) (λi' J=>K i' (by have:=hd d H;omega)) (hL d (hl d H)) j ?_;simpa[V_] using hj
def xa{i d}:d∈fS ops i↔∃o,ops[i]?=some o/\∃e∈o.after,Region.binds .any e=true/\e.on=d:=by
 unfold fS;cases h:ops[i]? with
 |none=>simp
 |some o=>
  simp only[WY,Yd,Vz];constructor
  .rintro⟨e,⟨he,hb⟩,rfl⟩;exact⟨o,rfl,e,by simpa using he,hb,rfl⟩
  .rintro⟨o',rfl,e,he,hb,rfl⟩;exact⟨e,⟨by simpa using he,hb⟩,rfl⟩
def ef(ops:Array Oper)(fl:List Bool):List (Nat×Nat):=(List.range ops.size).filterMap λi=>if fl.getD i false then (match ops[i]? with|some o=>o.dst.map λd=>(i,d)|none=>none) else none
def iM(a:Act)(H:List (Nat×Nat))(vs:Nat->Value):Act:=H.foldl (λb p=>b.put (some p.2) (vs p.1)) a
def ux(ops:Array Oper)(fl:List Bool)(n:Nat):Bool:=
 ((List.range ops.size).all λi=>!fl.getD i false||match ops[i]? with|some o=>(match o.dst with|some d=>decide (d<n)|none=>false)|none=>false)&&decide ((ef ops fl).map (·.2)).Nodup
def bl(P:Program)(o:Oper)(ρ:Operand->Value)(w:World)(R:Value->au):Prop:=
 (∃v w',(execOp ρ o).run P w=.ok (.value v) w'/\Below w w w'/\R v w')\/
 (∃f args,(execOp ρ o).run P w=.ok (.enter f args) w/\Calls P f args w λe w'=>∃v,e=.returned v/\Below w w w'/\R v w')
def bl.wpOp{o}{a}{w}{R:Value->au}{i}(h:bl P o a.eval w R)(Z:ops[i]?=some o)(hg:o.guard=none){K:Act->au}
 (hK:∀v w',Below w w w'->R v w'->K (a.put o.dst v) w'):wpOp P ops Q i K a w:=by
 unfold Go.wpOp;simp only[Z];rw[Um (by simp [Region.wanted,hg])];refine .inl ?_;unfold Oper.wp;rcases h with ⟨v,w',hr,hb,hR⟩|⟨f,args,hr,hc⟩
 .rw[hr];exact hK v w' hb hR
 .rw[hr];refine hc.mono λe w' ⟨v,he,hb,hR⟩=>?_;subst he;exact hK v w' hb hR
def PA(lo:Nat)(zs:Array Value)(T:TypeId):Value->au:=λv w=>∃r,v=.pointer (some ⟨r,0,none⟩)/\lo<=r/\ag r zs T w
def PA.closed(lo)(zs)(T)(v):aQ (PA lo zs T v):=λ_ _ ⟨r,h1,h2,h3⟩ hb=>⟨r,h1,h2,h3.next hb⟩
def aS(P:Program)(ops:Array Oper)(fl:List Bool)(al:List Nat)(a0:Act)(W:World)(PV:Nat->Value->au)(i:Nat):Prop:=
 ∀o,ops[i]?=some o->∀(a:Act) (w:World),Below W W w->(∀t,(∀p∈ef ops fl,p.2≠t)->a.tmps[t]?=a0.tmps[t]?)->(∀d∈fS ops i,∀od t,ops[d]?=some od->od.dst=some t->∃v,a.tmps[t]?=some v/\PV d v w)->
  bl P o a.eval w λv w'=>PV i v w'/\(i∈al->v=.pointer w)
structure Kl (ops:Array Oper)(fl:List Bool)(al:List Nat)(a0:Act)(W:World)(PV:Nat->Value->World->Prop)(listed:Array Bool)(a:Act)(w:World):Prop where
 size:listed.size=ops.size
 clo:∀i,listed.getD i false=true->∀d∈fS ops i,listed.getD d false=true
 sub:∀i,listed.getD i false=true->fl.getD i false=true
 val:∀i o d,listed.getD i false=true->ops[i]?=some o->o.dst=some d->∃v,a.tmps[d]?=some v/\PV i v w
 bas:∀t,(∀p∈ef ops fl,p.2≠t)->a.tmps[t]?=a0.tmps[t]?
 siz:a.tmps.size=a0.tmps.size
 dfr:a.defers=a0.defers
 ovr:Below W W w
 sep:∀i j oi oj di dj,i≠j->i∈al->j∈al->listed.getD i false=true->listed.getD j false=true->ops[i]?=some oi->ops[j]?=some oj->oi.dst=some di->oj.dst=some dj->a.tmps[di]?≠a.tmps[dj]?
def mL{fl:List Bool}{p:Nat×Nat}:p∈ef ops fl↔fl.getD p.1 false=true/\∃o,ops[p.1]?=some o/\o.dst=some p.2:=by
 unfold ef;rw[List.mem_filterMap];constructor
 .rintro⟨i,_,h⟩;split at h
  .rename_i hf;cases Z:ops[i]? with
   |none=>rw[Z] at h;cases h
   |some o=>
    rw[Z] at h;cases hd:o.dst with
    |none=>simp only[hd] at h;cases h
    |some d=>
     simp only[hd,Option.map_some,Vz] at h;subst h;exact⟨hf,o,Z,hd⟩
  .cases h
 .rintro⟨hf,o,Z,hd⟩;refine⟨p.1,V4.2 (Uv.1 Z).1,?_⟩;rw[Um hf,Z];simp [hd]
def mK(a:Act)(d:Nat)(v)(t):(a.put (some d) v).tmps[t]?=if d=t then (if t<a.tmps.size then some v else none) else a.tmps[t]?:=by
 simp only[Act.put];rw[Array.getElem?_setIfInBounds];split
 .rename_i h;subst h;rfl
 .rfl
theorem qu(vs:Nat->Value):∀(H:List (Nat×Nat)) (a) (t),(H.map (·.2)).Nodup->(iM a H vs).tmps[t]?=(match H.find? (λp=>p.2==t) with|some p=>if t<a.tmps.size then some (vs p.1) else none|none=>a.tmps[t]?)/\(iM a H vs).tmps.size=a.tmps.size/\(iM a H vs).defers=a.defers
 |[],a,t,_=>⟨rfl,rfl,rfl⟩
 |p::H,a,t,hn=>by
  rw[VF,Ye] at hn;have⟨h1,h2,h3⟩:=qu vs H (a.put (some p.2) (vs p.1)) t hn.2;have hs:(a.put (some p.2) (vs p.1)).tmps.size=a.tmps.size:=tw _ _ _;have e:iM a (p::H) vs=iM (a.put (some p.2) (vs p.1)) H vs:=rfl;rw[e];refine⟨?_,h2.trans hs,h3.trans rfl⟩;rw[h1,Xx];by_cases G:p.2=t
  .have aL:H.find? (λp=>p.2==t)=none:=by
    rw[WZ];intro q hq F;have g:=by simpa using F
    exact hn.1 (WY.2 ⟨q,hq,g.trans G.symm⟩)
   rw[aL];simp only[show (p.2==t)=true by simpa using G];rw[mK,Um G]
  .simp only[show (p.2==t)=false by simpa using G];cases hf:H.find? (λp=>p.2==t) with
   |none=>simp only[];rw[mK,Uj G]
   |some q=>simp only[];rw[hs]
theorem qw:∀{l:List (Nat×Nat)},(l.map (·.2)).Nodup->∀{p q:Nat×Nat},p∈l->q∈l->p.2=q.2->p=q
 |[],_,p,_,G,_,_=>by cases G
 |x::l,hn,p,q,G,hq,e=>by
  rw[VF,Ye] at hn;rcases UM.1 G with h1|h1
  .rcases UM.1 hq with h2|h2
   .rw[h1,h2]
   .exact absurd (WY.2 ⟨q,h2,by rw[<-e,h1]⟩) hn.1
  .rcases UM.1 hq with h2|h2
   .exact absurd (WY.2 ⟨p,h1,by rw[e,h2]⟩) hn.1
   .exact qw hn.2 h1 h2 e
def M5{fl:List Bool}{al:List Nat}{a0}{W}{PV:Nat->Value->au}(a2:yL ops fl=true)(ba:ux ops fl a0.tmps.size=true)(aa:∀i o,fl.getD i false=true->ops[i]?=some o->o.guard=none)(aX:∀i∈al,∃lo zs T,PV i=PA lo zs T)(ab:∀i v,aQ (PV i v))
 (F:∀i,fl.getD i false=true->aS P ops fl al a0 W PV i)
 (U:∀(vs:Nat->Value) (w),Below W W w->(∀p∈ef ops fl,PV p.1 (vs p.1) w)->(∀p∈ef ops fl,∀q∈ef ops fl,p.1≠q.1->p.1∈al->q.1∈al->vs p.1≠vs q.1)->wpAny P .any ops Q (fl.count false) fl.toArray (iM a0 (ef ops fl) vs) w):
 ∀(fuel) (listed:Array Bool) (a) (w),Kl ops fl al a0 W PV listed a w->listed.toList.count false=fuel->wpAny P .any ops Q fuel listed a w:=by
 unfold yL at a2;simp only[Ux,UW,US,V4] at a2;have⟨ac,a2⟩:=a2;unfold ux at ba;simp only[Ux,UW,US,V4] at ba;have⟨I,a9⟩:=ba;have a5:∀i,fl.getD i false=true->i<ops.size:=λi h=>by
  rcases Vn i fl.length with J|J
  .omega
  .rw[V_,VS J] at h;cases h
 have b0:∀i,∀d∈fS ops i,d<i:=λi d hd=>by
  have⟨o,Z,_⟩:=xa.1 hd;exact (a2 i (Uv.1 Z).1).1 d hd
 have cc:∀i,fl.getD i false=true->∃o d,ops[i]?=some o/\o.dst=some d/\d<a0.tmps.size:=λi h=>by
  have:=I i (a5 i h);rw[h] at this;simp at this;cases Z:ops[i]? with
  |none=>rw[Z] at this;cases this
  |some o=>
   rw[Z] at this;cases hd:o.dst with
   |none=>simp only[hd] at this;cases this
   |some d=>simp only[hd,UW] at this;exact⟨o,d,rfl,hd,this⟩
 have bs:∀(listed:Array Bool) (a:Act) (w:World),Kl ops fl al a0 W PV listed a w->(∀i,fl.getD i false=true->listed.getD i false=true)->wpAny P .any ops Q (listed.toList.count false) listed a w:=λlisted a w hI az=>by
  have e1:listed=fl.toArray:=by
   apply Array.ext
   .rw[hI.size];simpa using ac.symm
   .intro i h1 h2;have ca:=by simpa using h2
    have f1:listed.getD i false=listed[i]:=by simp [U4,h1]
    have f2:fl.getD i false=fl[i]:=by simp [V_,ca]
    have h3:fl.toArray[i]=fl[i]:=s_;rw[h3];cases hx:listed[i] with
    |true=>
     have h:=hI.sub i (by rw[f1,hx]);rw[f2] at h;exact h.symm
    |false=>
     cases hy:fl[i] with
     |false=>rfl
     |true=>
      have h:=az i (by rw[f2,hy]);rw[f1,hx] at h;exact h
  let vs:Nat->Value:=λi=>match ops[i]? with|some o=>(match o.dst with|some d=>a.tmps[d]?.getD undef|none=>undef)|none=>undef
  have b1:∀p∈ef ops fl,a.tmps[p.2]?=some (vs p.1)/\PV p.1 (vs p.1) w:=λp G=>by
   have⟨hf,o,Z,hd⟩:=mL.1 G;have⟨v,hv,cy⟩:=hI.val p.1 o p.2 (az _ hf) Z hd;have:vs p.1=v:=by
    show (match ops[p.1]? with|some o=>(match o.dst with|some d=>a.tmps[d]?.getD undef|none=>undef)|none=>undef)=v;rw[Z];simp only[hd,hv,WG]
   rw[this];exact⟨hv,cy⟩
  have e2:a=iM a0 (ef ops fl) vs:=by
   have⟨_,h2,h3⟩:=qu vs (ef ops fl) a0 0 a9;have ht:a.tmps=(iM a0 (ef ops fl) vs).tmps:=by
    apply Array.ext_getElem?;intro t;rw[(qu vs (ef ops fl) a0 t a9).1];cases hf:(ef ops fl).find? (λp=>p.2==t) with
    |none=>
     rw[WZ] at hf;exact hI.bas t λp G e=>hf p G (by simpa using e)
    |some p=>
     have G:=VT hf;have ht:=by simpa using WS hf
     have h1:=(b1 p G).1;rw[ht] at h1;have aG:=(Uv.1 h1).1;rw[hI.siz] at aG;simp only[aG,Vo];exact h1
   cases a;cases hq:iM a0 (ef ops fl) vs;rw[hq] at ht h3;simp only at ht h3;have cX:=hI.dfr;simp only at cX;rw[ht,cX,h3]
  rw[e2,e1];refine U vs w hI.ovr (λp G=>(b1 p G).2) λp G q hq cm cs co he=>?_;have⟨a6,o1,bz,bY⟩:=mL.1 G;have⟨bq,o2,bb,bo⟩:=mL.1 hq;exact hI.sep p.1 q.1 o1 o2 p.2 q.2 cm cs co (az _ a6) (az _ bq) bz bb bY bo (by rw[(b1 p G).1,(b1 q hq).1,he])
 intro fuel
 induction fuel with
 |zero=>
  intro listed a w hI hc;rw[<-hc];refine bs listed a w hI λi hi=>?_;have aG:i<listed.size:=by rw[hI.size];exact a5 i hi
  cases hb:listed[i] with
  |true=>simp [U4,aG,hb]
  |false=>exact absurd (by rw[<-hb];exact Array.getElem_mem_toList aG) (List.count_eq_zero.1 hc)
 |succ fuel g=>
  intro listed a w hI hc;by_cases az:∀i,fl.getD i false=true->listed.getD i false=true
  .rw[<-hc];exact bs listed a w hI az
  .have a7:∃i,fl.getD i false=true/\listed.getD i false=false:=by
    refine WT λaL=>az λi hi=>?_;cases hb:listed.getD i false with
    |true=>rfl
    |false=>exact absurd ⟨i,hi,hb⟩ aL
   refine⟨λh0=>?_,λi hi=>?_⟩
   .exfalso;have c0:∀k i,i<k->fl.getD i false=true->listed.getD i false=false->False:=by
     intro k
     induction k with
     |zero=>intro i h;omega
     |succ k c3=>
      intro i cu hf hb;by_cases a1:∀d∈fS ops i,listed.getD d false=true
      .have aG:=a5 i hf;have hr:i∈Region.ready .any ops listed:=by
        rw[Yf];refine⟨?_,ops[i],by simp [aG],λe he b5=>a1 _ (xa.2 ⟨ops[i],by simp [aG],e,he,b5,rfl⟩)⟩;have hl:i<listed.size:=by rw[hI.size];exact aG
        simpa[U4,hl] using hb
       rw[h0] at hr;cases hr
      .have:∃d∈fS ops i,listed.getD d false=false:=by
        refine WT λaL=>a1 λd hd=>?_;cases ax:listed.getD d false with
        |true=>rfl
        |false=>exact absurd ⟨d,hd,ax⟩ aL
       have⟨d,hd,b5⟩:=this;have c8:=by
        have:=(a2 i (a5 i hf)).2;rw[Um hf,US] at this;exact this d hd
       exact c3 d (by have:=b0 i d hd;omega) c8 b5
    have⟨i,hi,hb⟩:=a7;exact c0 (i+1) i o_ hi hb
   .have⟨aZ,o,Z,a1⟩:=Yf.1 hi;have aG:=(Uv.1 Z).1;have hl:i<listed.size:=by rw[hI.size];exact aG
    have a4:∀d∈fS ops i,listed.getD d false=true:=λd hd=>by
     obtain⟨o',V,e,he,b5,rfl⟩:=xa.1 hd;rw[Z] at V;obtain rfl:=VM V;exact a1 e he b5
    have a3:fl.getD i false=true:=by
     refine WT λaL=>?_;have:=(a2 i aG).2;rw[Uj aL,US] at this;have⟨j,hj,cP⟩:=a7;have cz:=this j (V4.2 (a5 j hj));rw[hj] at cz;simp at cz;have:=Py (L:=λj=>listed.getD j false=true) (λi h d hd=>hI.clo i h d hd) ops.size i aG (b0 i) (λi' _=>b0 i') a4 j cz;rw[this] at cP;cases cP
    have⟨o',d,V,hd,cb⟩:=cc i a3;rw[Z] at V;obtain rfl:=VM V;have H:(i,d)∈ef ops fl:=mL.2 ⟨a3,o,Z,hd⟩;refine (F i a3 o Z a w hI.ovr hI.bas (λe he oe t c9 cM=>hI.val e oe t (a4 e he) c9 cM)).wpOp Z (aa i o a3 Z) λv w' hb ⟨cy,cQ⟩=>?_;have bp:∀j,(listed.setIfInBounds i true).getD j false=true↔(j=i\/listed.getD j false=true):=λj=>by
     simp only[U4,Array.getElem?_setIfInBounds];by_cases ae:i=j
     .subst ae;simp [hl]
     .rw[Uj ae];constructor
      .exactλh=>.inr h
      .rintro (h|h)
       .exact absurd h.symm ae
       .exact h
    refine g _ _ _ ⟨by simpa using hI.size,λj hj e he=>?_,λj hj=>?_,λj oj t hj aM b8=>?_,λt ht=>?_,(tw _ _ _).trans hI.siz,?_,af hb hI.ovr.size hI.ovr,λx y ox oy dx dy bi aF cv ad a8 b9 b6 b2 b3=>?_⟩ ?_
    .rw[bp] at hj ⊢;rcases hj with rfl|hj
     .exact .inr (a4 e he)
     .exact .inr (hI.clo j hj e he)
    .rw[bp] at hj;rcases hj with rfl|hj
     .exact a3
     .exact hI.sub j hj
    .rw[bp] at hj;rw[hd,mK];by_cases ae:j=i
     .subst ae;rw[Z] at aM;obtain rfl:=VM aM;rw[hd] at b8;obtain rfl:=VM b8;rw[Um rfl,Um (by rw[hI.siz];exact cb)];exact⟨v,rfl,cy⟩
     .have cZ:=hj.resolve_left ae;have⟨u,hu,b7⟩:=hI.val j oj t cZ aM b8;have hne:d≠t:=λe=>by
       subst e;have c1:(j,d)∈ef ops fl:=mL.2 ⟨hI.sub j cZ,oj,aM,b8⟩;exact ae (congrArg Prod.fst (qw a9 c1 H rfl))
      rw[Uj hne];exact⟨u,hu,ab j u _ _ b7 hb⟩
    .rw[hd,mK,Uj (ht (i,d) H)];exact hI.bas t ht
    .rw[hd];exact hI.dfr
    .rw[bp] at ad a8;have bv:∀(p q:Nat) (op oq:Oper) (dp dq:Nat),p≠q->p∈al->q∈al->p=i->listed.getD q false=true->ops[p]?=some op->ops[q]?=some oq->op.dst=some dp->oq.dst=some dq->(a.put o.dst v).tmps[dp]?≠(a.put o.dst v).tmps[dq]?:=by
      intro p q op oq dp dq cm cs co cA cG K cF b4 cB;rw[cA] at K;rw[Z] at K;obtain rfl:=VM K;rw[hd] at b4;obtain rfl:=VM b4;have⟨u,hu,b7⟩:=hI.val q oq dq cG cF cB;have hne:d≠dq:=λe=>by
       subst e;have c2:(q,d)∈ef ops fl:=mL.2 ⟨hI.sub q cG,oq,cF,cB⟩;exact cm (cA.trans (congrArg Prod.fst (qw a9 H c2 rfl)))
      rw[hd,mK,mK,Um rfl,Uj hne,Um (by rw[hI.siz];exact cb),hu,cQ (cA▸cs)];have⟨lo,zs,T,c6⟩:=aX q co;rw[c6] at b7;obtain⟨r,rfl,_,cT⟩:=b7;intro he;have:=cT.lt;simp only[Vz,Value.pointer.injEq,XR] at he;omega
     rcases ad with hxi|ad
     .rcases a8 with hyi|a8
      .exact absurd (hxi.trans hyi.symm) bi
      .exact bv x y ox oy dx dy bi aF cv hxi a8 b9 b6 b2 b3
     .rcases a8 with hyi|a8
      .exact (bv y x oy ox dy dx (Ne.symm bi) cv aF hyi ad b6 b9 b3 b2).symm
      .have bZ:∀(z:Nat) (oz:Oper) (dz:Nat),listed.getD z false=true->ops[z]?=some oz->oz.dst=some dz->d≠dz:=λz oz dz bx bX c7 e=>by
        subst e;have c5:(z,d)∈ef ops fl:=mL.2 ⟨hI.sub z bx,oz,bX,c7⟩;have c4:z=i:=congrArg Prod.fst (qw a9 c5 H rfl);subst c4;have h1:=aZ;simp only[U4,WU hl,WG] at h1 bx;rw[h1] at bx;cases bx
       rw[hd,mK,mK,Uj (bZ x ox dx ad b9 b2),Uj (bZ y oy dy a8 b6 b3)];exact hI.sep x y ox oy dx dy bi aF cv ad a8 b9 b6 b2 b3
    .have h2:listed.toList[i]?=some false:=by
      have:=aZ;simp at this;rw[WU hl] at this;rw[VJ,WU hl];simpa using this
     have:=Mc h2;rw[Array.toList_setIfInBounds];omega
def q_(ops:Array Oper):List Nat->Array Bool->Bool
 |[],listed=>(Region.ready .any ops listed).isEmpty
 |i::r,listed=>Region.ready .any ops listed==[i]&&q_ ops r (listed.setIfInBounds i true)
theorem Bf:∀(l:List Nat) (fuel) (listed:Array Bool) (a) (w),q_ ops l listed=true->l.length=fuel->wpOps P ops Q l a w->wpAny P .any ops Q fuel listed a w
 |[],0,listed,a,w,hc,_,h=>⟨by simpa[q_] using hc,h⟩
 |i::r,fuel+1,listed,a,w,hc,hf,h=>by
  simp only[q_,Ux,VC] at hc;refine⟨λh0=>(by rw[hc.1] at h0;cases h0),λj hj=>?_⟩;rw[hc.1,UD] at hj;subst hj;rw[wpOps_cons] at h;exact XK (λa w=>Bf r fuel _ a w hc.2 (by simpa using hf)) h
 |[],_+1,_,_,_,_,hf,_=>by simp at hf
 |_::_,0,_,_,_,_,hf,_=>by simp at hf
def eS(k m:Nat):List Bool:=List.replicate k true++List.replicate m false
def rY(l:List Oper)(k n:Nat):Bool:=
 decide (k<=l.length)&&yL l.toArray (eS k (l.length - k))&&ux l.toArray (eS k (l.length - k)) n&&(l.take k).all (λo=>o.guard.isNone)&&q_ l.toArray (List.range' k (l.length - k)) (eS k (l.length - k)).toArray
def tN{k m i}:(eS k m).getD i false=true↔i<k:=by
 unfold eS;rw[V_];rcases Vn i k with h|h
 .rw[VI kj];simp [h]
 .rw[Vk kj];simp;rcases Vn (i - k) m with J|J
  .simp [J];omega
  .simp [J];omega
def PX(k m):(eS k m).count false=m:=by
 unfold eS;rw[List.count_append];simp [List.count_replicate]
def nm(L:List (Value->au))(i:Nat):Value->au:=(L[i]?).getD λ_ _=>True
def l_:List (Value->au)->Prop
 |[]=>True
 |p::L=>(∀v,aQ (p v))/\l_ L
theorem l_.get:∀{L:List (Value->au)},l_ L->∀i v,aQ (nm L i v)
 |[],_,_,_=>λ_ _ _ _=>trivial
 |_::_,h,0,v=>h.1 v
 |_::L,h,i+1,v=>by
  have:=l_.get h.2 i v;simpa[nm] using this
def m_(P:Program)(ops:Array Oper)(fl:List Bool)(al:List Nat)(a0:Act)(W:World)(L:List (Value->au)):Nat->Nat->Prop
 |_,0=>True
 |i,k+1=>aS P ops fl al a0 W (nm L) i/\m_ P ops fl al a0 W L (i+1) k
theorem m_.get{fl:List Bool}{al:List Nat}{a0}{W}{L:List (Value->au)}:∀{k i j},m_ P ops fl al a0 W L i k->i<=j->j<i+k->aS P ops fl al a0 W (nm L) j
 |0,_,_,_,h1,h2=>by omega
 |k+1,i,j,h,h1,h2=>by
  by_cases g:i=j
  .subst g;exact h.1
  .exact m_.get h.2 o_ o_
def uJ(L:List (Value->au))(al:List Nat)(k:Nat)(vs:Nat->Value)(w:World):Prop:=
 (∀i,i<k->nm L i (vs i) w)/\∀i j,i<k->j<k->i≠j->i∈al->j∈al->vs i≠vs j
def mw(L:List (Value->au)):List Nat->Prop
 |[]=>True
 |i::al=>(∃lo zs T,nm L i=PA lo zs T)/\mw L al
theorem mw.get{L:List (Value->au)}:∀{al:List Nat},mw L al->∀i∈al,∃lo zs T,nm L i=PA lo zs T
 |[],_,i,h=>by cases h
 |j::al,h,i,hi=>by
  rcases UM.1 hi with rfl|hi
  .exact h.1
  .exact mw.get h.2 i hi
def tU{n i}(h:(Array.replicate n false).getD i false=true):False:=by
 rw[U4,Array.getElem?_replicate] at h;split at h<;>simp at h
section
variable {o:Oper}{ρ:Operand->Value}{w:World}{R:Value->au}
def bl.value(v)(h:(execOp ρ o).run P w=.ok (.value v) w)(hR:R v w):bl P o ρ w R:=.inl ⟨v,w,h,Uk _ _,hR⟩
def bl.make(v)(w')(h:(execOp ρ o).run P w=.ok (.value v) w')(hb:Below w w w')(hR:R v w'):bl P o ρ w R:=.inl ⟨v,w',h,hb,hR⟩
def bl.call(f:FuncId)(args)(g)(xs:Array Operand)(F:Array TypeId)(Z:o.op=.call {callee:=.value g,args:=xs,argTypes:=F})(hg:ρ g=.func (.func f) #[] #[])
 (eg:∀args w,(callFunc f args).run P w=.ok (.enter f args) w)(ha:xs.map ρ=args)(hc:Calls P f args w λe w'=>∃v,e=.returned v/\Below w w w'/\R v w'):bl P o ρ w R:=by
 refine .inr ⟨f,args,?_,hc⟩;unfold execOp;rw[Z];simp [resolve,hg,Deferred.ofValue,invoke,eg,ha]
def bl.alloc{lo}{zs}{T}(Z:o.op=.alloc T)(hr:∀w,(Instr.alloc T true (.tuple #[])).run P w=.ok (.pointer w) (w.alloc (.cells zs T)))(H:lo<=w.heap.size):
 bl P o ρ w λv w'=>PA lo zs T v w'/\v=.pointer w:=
 .make _ (w.alloc (.cells zs T)) (by unfold execOp;rw[Z];simp [hr]) ((Uk _ _).alloc (Ug _) _) ⟨⟨_,rfl,H,ag.new w zs T⟩,rfl⟩
end
def TH(ops:Array Oper)(fl:List Bool)(t:Nat):Bool:=(ef ops fl).all λp=>p.2 != t
def J3(ops:Array Oper)(i d t:Nat):Bool:=(fS ops i).contains d&&(ops[d]?.bind (·.dst))==some t
def Ql(l:List Value)(d:List Deferred)(t:Nat):Act.eval ⟨l.toArray,d⟩ (.tmp t)=(l[t]?).getD undef:=by
 simp [Act.eval,U4]
def RY{a:Act}{t:Nat}{v}(h:a.tmps[t]?=some v):a.eval (.tmp t)=v:=by
 simp [Act.eval,U4,h]
structure pY (ops:Array Oper)(fl:List Bool)(l0:List Value)(W:World)(PV:Nat->Value->World->Prop)(i:Nat)(ρ:Operand->Value)(w:World):Prop where
 con:∀v,ρ (.const v)=v
 fn:∀f,ρ (.func f)=.func (.func f) #[] #[]
 bel:Below W W w
 bas:∀t,TH ops fl t=true->ρ (.tmp t)=(l0[t]?).getD undef
 dep:∀d t,J3 ops i d t=true->∃v,ρ (.tmp t)=v/\PV d v w
def pY.of{fl:List Bool}{l0}{d0:List Deferred}{W:World}{PV:Nat->Value->au}{i}{a:Act}{w}(hB:Below W W w)(hb:∀t,(∀p∈ef ops fl,p.2≠t)->a.tmps[t]?=(⟨l0.toArray,d0⟩:Act).tmps[t]?)
 (hd:∀d∈fS ops i,∀od t,ops[d]?=some od->od.dst=some t->∃v,a.tmps[t]?=some v/\PV d v w):pY ops fl l0 W PV i a.eval w:=by
 refine⟨λ_=>rfl,λ_=>rfl,hB,λt ht=>?_,λd t h=>?_⟩
 .have h1:=hb t (λp G=>by
   have:=US.1 ht p G;simpa using this)
  rw[<-Ql l0 d0 t];simp only[Act.eval,U4,h1]
 .unfold J3 at h;simp at h;have⟨h1,h2⟩:=h;cases Z:ops[d]? with
  |none=>rw[Z] at h2;simp at h2
  |some od=>
   rw[Z] at h2;have⟨v,hv,G⟩:=hd d h1 od t Z (by simpa using h2);exact⟨v,RY hv,G⟩
def aS.q{fl:List Bool}{al:List Nat}{l0}{d0:List Deferred}{W}{PV:Nat->Value->au}{i}(o)(Z:ops[i]?=some o)(hi:al.contains i=false)
 (h:∀ρ w,pY ops fl l0 W PV i ρ w->bl P o ρ w (PV i)):aS P ops fl al ⟨l0.toArray,d0⟩ W PV i:=by
 intro o' V a w hB hb hd;rw[Z] at V;obtain rfl:=VM V;have hn:=by simpa using hi
 rcases (h a.eval w (pY.of hB hb hd)) with ⟨v,w',hr,ax,hR⟩|⟨f,args,hr,hc⟩
 .exact .inl ⟨v,w',hr,ax,hR,λh=>absurd h hn⟩
 .exact .inr ⟨f,args,hr,hc.mono λe w' ⟨v,he,ax,hR⟩=>⟨v,he,ax,hR,λh=>absurd h hn⟩⟩
def aS.a{fl:List Bool}{al:List Nat}{l0}{d0:List Deferred}{W}{PV:Nat->Value->au}{i}(o)(Z:ops[i]?=some o)
 (h:∀ρ w,pY ops fl l0 W PV i ρ w->bl P o ρ w λv w'=>PV i v w'/\v=.pointer w):aS P ops fl al ⟨l0.toArray,d0⟩ W PV i:=by
 intro o' V a w hB hb hd;rw[Z] at V;obtain rfl:=VM V;rcases (h a.eval w (pY.of hB hb hd)) with ⟨v,w',hr,ax,hR⟩|⟨f,args,hr,hc⟩
 .exact .inl ⟨v,w',hr,ax,hR.1,λ_=>hR.2⟩
 .exact .inr ⟨f,args,hr,hc.mono λe w' ⟨v,he,ax,hR⟩=>⟨v,he,ax,hR.1,λ_=>hR.2⟩⟩
def ew(vs:Nat->Value):List Value->Nat->List (Nat×Nat)->List Value
 |[],_,_=>[]
 |x::l,_,[]=>x::l
 |x::l,t,p::H=>cond (p.2==t) (vs p.1::ew vs l (t+1) H) (x::ew vs l (t+1) (p::H))
def my:Nat->List (Nat×Nat)->Bool
 |_,[]=>true
 |t,p::H=>decide (t<=p.2)&&my (p.2+1) H
theorem wP(vs:Nat->Value):∀(l) (t) (H:List (Nat×Nat)),my t H=true->∀s,(ew vs l t H)[s]?=match H.find? (λp=>p.2==t+s) with|some p=>if s<l.length then some (vs p.1) else none|none=>l[s]?
 |[],_,H,_,s=>by
  unfold ew;split<;>simp
 |x::l,t,[],_,s=>by simp [ew]
 |x::l,t,p::H,h,s=>by
  simp only[my,Ux,UW] at h;have aL:∀{u n} {H:List (Nat×Nat)},my n H=true->u<n->H.find? (λp=>p.2==u)=none:=by
   intro u n H
   induction H generalizing n with
   |nil=>intros;rfl
   |cons q H g=>
    intro hr hu;simp only[my,Ux,UW] at hr;rw[Xx,show (q.2==u)=false by simp;omega];exact g hr.2 o_
  rw[ew];by_cases G:p.2=t
  .rw[show (p.2==t)=true by simpa using G,VK];cases s with
   |zero=>simp [G]
   |succ s=>
    have g:=wP vs l (t+1) H (by rw[<-G];exact h.2) s;rw[UY,g,Xx,show (p.2==t+(s+1))=false by simp;omega,show t+1+s=t+(s+1) by omega];simp
  .rw[show (p.2==t)=false by simpa using G,VD];cases s with
   |zero=>
    rw[UZ,Xx,show (p.2==t+0)=false by simp;omega,aL h.2 o_];simp
   |succ s=>
    have g:=wP vs l (t+1) (p::H) (by simp only[my,Ux,UW];exact⟨by omega,h.2⟩) s;rw[UY,g,show t+1+s=t+(s+1) by omega];simp
def uP(H g:List (Nat×Nat)):Bool:=my 0 H&&H.all (λp=>g.contains p)&&g.all (λp=>H.contains p)&&decide ((g.map (·.2)).Nodup)
theorem BZ:∀{n} {H:List (Nat×Nat)},my n H=true->(H.map (·.2)).Nodup/\∀p∈H,n<=p.2
 |_,[],_=>⟨List.nodup_nil,λp G=>by cases G⟩
 |n,q::H,h=>by
  simp only[my,Ux,UW] at h;have⟨h1,h2⟩:=BZ h.2;refine⟨?_,λp G=>?_⟩
  .rw[VF,Ye];refine⟨λhm=>?_,h1⟩;have⟨p,G,he⟩:=WY.1 hm;have:=h2 p G;omega
  .rcases UM.1 G with rfl|G
   .exact h.1
   .have:=h2 p G;omega
def OZ{H g:List (Nat×Nat)}(hn:(H.map (·.2)).Nodup)(h:∀p∈H,p∈g)(J:∀p∈g,p∈H)(t):H.find? (λp=>p.2==t)=g.find? (λp=>p.2==t):=by
 cases hf:H.find? (λp=>p.2==t) with
 |none=>
  cases hf':g.find? (λp=>p.2==t) with
  |none=>rfl
  |some q=>
   rw[WZ] at hf;exact absurd (WS hf') (hf q (J q (VT hf')))
 |some p=>
  cases hf':g.find? (λp=>p.2==t) with
  |none=>
   rw[WZ] at hf';exact absurd (WS hf) (hf' p (h p (VT hf)))
  |some q=>
   have e1:=by simpa using WS hf
   have e2:=by simpa using WS hf'
   rw[qw hn (VT hf) (J q (VT hf')) (e1.trans e2.symm)]
def BT{vs:Nat->Value}{l0}{d0:List Deferred}{H g:List (Nat×Nat)}(h:uP H g=true):iM ⟨l0.toArray,d0⟩ g vs=⟨(ew vs l0 0 H).toArray,d0⟩:=by
 unfold uP at h;simp only[Ux,UW,US,Yp] at h;have⟨⟨⟨h1,h2⟩,h3⟩,h4⟩:=h;have⟨_,_,F⟩:=qu vs g ⟨l0.toArray,d0⟩ 0 h4;have ht:(iM ⟨l0.toArray,d0⟩ g vs).tmps=(ew vs l0 0 H).toArray:=by
  apply Array.ext_getElem?;intro t;rw[(qu vs g ⟨l0.toArray,d0⟩ t h4).1];simp only[U3];rw[wP vs l0 0 H h1,U7,OZ ((BZ h1).1) h2 h3];cases g.find? (λp=>p.2==t) with
  |none=>simp
  |some p=>simp
 cases hq:iM ⟨l0.toArray,d0⟩ g vs;rw[hq] at ht F;simp only at ht F;rw[ht,F]
def Cw{l}{a0}{W}(k)(al:List Nat)(L:List (Value->au))(hk:rY l k a0.tmps.size=true)
 (aX:mw L al)(ab:l_ L)(F:m_ P l.toArray (eS k (l.length - k)) al a0 W L 0 k)
 (U:∀(vs:Nat->Value) (w),Below W W w->uJ L al k vs w->wpList P l.toArray Q (l.drop k) (iM a0 (ef l.toArray (eS k (l.length - k))) vs) w):∀W1,Below W W W1->wpAny P .any l.toArray Q l.length (Array.replicate l.length false) a0 W1:=by
 intro W1 a7;unfold rY at hk;simp only[Ux,UW] at hk;have⟨⟨⟨⟨b3,a2⟩,ba⟩,aa⟩,hch⟩:=hk;have I:∀i,i<k->∃d,(i,d)∈ef l.toArray (eS k (l.length - k)):=λi hi=>by
  unfold ux at ba;simp only[Ux,UW,US,V4] at ba;have h1:=ba.1 i u_;rw[tN.2 hi] at h1;simp only[Bool.not_true,Bool.false_or] at h1;cases Z:l.toArray[i]? with
  |none=>rw[Z] at h1;cases h1
  |some o=>
   rw[Z] at h1;cases hd:o.dst with
   |none=>simp only[hd] at h1;cases h1
   |some d=>exact⟨d,mL.2 ⟨tN.2 hi,o,Z,hd⟩⟩
 refine M5 (fl:=eS k (l.length - k)) (al:=al) (a0:=a0) (W:=W) (PV:=nm L) a2 ba (λi o hi Z=>?_) (mw.get aX) (l_.get ab) (λi hi=>F.get (UB _) (by have:=tN.1 hi;omega)) (λvs w hb G hs=>?_) _ _ _ _ ?_ s_
 .have h2:=US.1 aa o (List.mem_of_getElem? (i:=i) (by rw[UR (tN.1 hi)];simpa using Z));simpa using h2
 .refine Bf (List.range' k (l.length - k)) _ _ _ _ hch (by rw[PX];simp) ?_;have e:=wpOps_eq_wpList (P:=P) (ops:=l.toArray) (Q:=Q) (l.drop k) k (λj=>by simp);rw[Vs] at e;rw[e];refine U vs w hb ⟨λi hi=>?_,λi j hi hj g ad H=>?_⟩
  .have⟨d,hd⟩:=I i hi;exact G _ hd
  .have⟨d,hd⟩:=I i hi;have⟨e,he⟩:=I j hj;exact hs _ hd _ he g ad H
 .exact⟨by simp,λi hi=>(tU hi).elim,λi hi=>(tU hi).elim,λi _ _ hi=>(tU hi).elim,λ_ _=>rfl,rfl,rfl,a7,λi _ _ _ _ _ _ _ _ hi=>(tU hi).elim⟩
def L9{id}{l}{a0}{W}(k)(al:List Nat)(L:List (Value->au))(hm:P.follows .mixedOrders=true)(hk:rY l k a0.tmps.size=true)
 (aX:mw L al)(ab:l_ L)(F:m_ P l.toArray (eS k (l.length - k)) al a0 W L 0 k)
 (U:∀(vs:Nat->Value) (w),Below W W w->uJ L al k vs w->wpList P l.toArray Q (l.drop k) (iM a0 (ef l.toArray (eS k (l.length - k))) vs) w):(Code.region id l.toArray true).wp P Q a0 W:=by
 refine wp_region_any hm ?_;have:=Cw (P:=P) (Q:=Q) k al L hk aX ab F U W.drew (Uk _ _).drew;simpa using this
def iZ{id}{l}{l0}{d0:List Deferred}{W}(k)(al:List Nat)(H:List (Nat×Nat))(L:List (Value->au))(hm:P.follows .mixedOrders=true)(hk:rY l k l0.length=true)(G:uP H (ef l.toArray (eS k (l.length - k)))=true)
 (aX:mw L al)(ab:l_ L)(F:m_ P l.toArray (eS k (l.length - k)) al ⟨l0.toArray,d0⟩ W L 0 k)
 (U:∀(vs:Nat->Value) (w),Below W W w->uJ L al k vs w->wpList P l.toArray Q (l.drop k) ⟨(ew vs l0 0 H).toArray,d0⟩ w):(Code.region id l.toArray true).wp P Q ⟨l0.toArray,d0⟩ W:=
 L9 k al L hm vm aX ab F λvs w hb hd=>by
  rw[BT G];exact U vs w hb hd
def Hj(ops:Array Oper):Bool:=(List.range ops.size).all λi=>(Region.ready .any ops (eS i (ops.size - i)).toArray).contains i
def SJ{k m}:(eS k (m+1)).toArray.setIfInBounds k true=(eS (k+1) m).toArray:=by
 unfold eS;simp only[UK];congr 1;rw[WQ,Uj s_,Yo,V7,XC,UV,List.replicate_succ',U5];rfl
theorem BN(ht:Hj ops=true):∀(m k) (a) (w),k+m=ops.size->wpAny P .any ops Q m (eS k m).toArray a w->wpOps P ops Q (List.range' k m) a w
 |0,_,_,_,_,h=>h.2
 |m+1,k,a,w,hk,h=>by
  rw[List.range'_succ,wpOps_cons];have h1:=US.1 ht k (V4.2 o_);rw[show ops.size - k=m+1 by omega,Yp,UW] at h1;refine XK (λa w h2=>BN ht m (k+1) a w o_ ?_) (h.2 k h1);rw[SJ] at h2;exact h2
def AT{id}{l}{l0}{d0:List Deferred}{W}(k)(al:List Nat)(H:List (Nat×Nat))(L:List (Value->au))(ht:Hj l.toArray=true)(hk:rY l k l0.length=true)(G:uP H (ef l.toArray (eS k (l.length - k)))=true)
 (aX:mw L al)(ab:l_ L)(F:m_ P l.toArray (eS k (l.length - k)) al ⟨l0.toArray,d0⟩ W L 0 k)
 (U:∀(vs:Nat->Value) (w),Below W W w->uJ L al k vs w->wpList P l.toArray Q (l.drop k) ⟨(ew vs l0 0 H).toArray,d0⟩ w):(Code.region id l.toArray false).wp P Q ⟨l0.toArray,d0⟩ W:=by
 refine wp_region ?_;have h:=Cw (a0:=⟨l0.toArray,d0⟩) k al L vm aX ab F (λvs w hb hd=>by
  rw[BT G];exact U vs w hb hd) W (Uk _ _)
 rw[List.range_eq_range'];simpa using (BN ht l.length 0 _ _ s_ (by simpa[eS] using h))
end
def Ht(h:P:=by
 show w1.ownsRow _ _ _ _ _ _;rw[UE,Mp];exact J):=h
def GA(h:P:=by
 intro v' w1 J H _ bp;refine h v' w1 ?_ ?_ H (bp.imp id λh=>⟨_,h,by simp⟩)
 .exact Ht
 .exact IB):=h
def eL(L:List (Int×Int×Int)):List Value:=L.flatMap λp=>[.int .i64 p.1,.int .i64 p.2.1,.int .i64 p.2.2]
def Mp(L M:List (Int×Int×Int)):eL (L++M)=eL L++eL M:=by simp [eL]
def wF(L:List (Int×Int×Int))(p:Int×Int×Int):eL (p::L)=.int .i64 p.1::.int .i64 p.2.1::.int .i64 p.2.2::eL L:=by simp [eL]
def wX(L:List (Int×Int×Int)):∀i (h:i<L.length),(eL L)[i*3]?=some (.int .i64 L[i].1)/\(eL L)[i*3+1]?=some (.int .i64 L[i].2.1)/\(eL L)[i*3+2]?=some (.int .i64 L[i].2.2):=by
 induction L with
 |nil=>intro i h;simp at h
 |cons p L g=>
  intro i h;rw[wF];cases i with
  |zero=>simp
  |succ i=>
   have:=g i kj;rw[show (i+1)*3=i*3+3 by omega];simpa using this
def bD(w:World)(G:Nat)(v:Value)(L:List (Int×Int×Int)):Prop:=w.ownsRow G 46 3 v L.length (eL L)
def bD.nil(w)(G):bD w G (.slice none 0 0) []:=Wv _ _ _ _
def bD.below{w w1}{G}{v}{L:List (Int×Int×Int)}(h:bD w G v L)(hb:Below w w w1):bD w1 G v L:=by
 exact vP
def bD.le{w}{G base'}{v}{L:List (Int×Int×Int)}(h:bD w G v L)(hb:base'<=G):bD w base' v L:=
 ⟨h.1,h.2.elim Or.inl (λ⟨g,F,aM,hv,hg,r⟩=>Or.inr ⟨g,F,aM,hv,Ui hb hg,r⟩)⟩
def bD.lt{w}{G}{v}{L:List (Int×Int×Int)}(h:bD w G v L):∀k,v.ownBlock=some k->G<=k/\k<w.heap.size:=U9 h
def bD.form{w}{G}{v}{L:List (Int×Int×Int)}(h:bD w G v L):
 ∃(a:bT) (F:Nat),v=.slice a L.length F/\∀i (_:i<L.length),∃g,a=some ⟨g,0,none⟩/\w.cell? ⟨g,i*3,none⟩=some (.int .i64 L[i].1)/\w.cell? ⟨g,i*3+1,none⟩=some (.int .i64 L[i].2.1)/\w.cell? ⟨g,i*3+2,none⟩=some (.int .i64 L[i].2.2)/\
  g<w.heap.size/\G<=g:=by
 rcases h.2 with ⟨hv,hn⟩|⟨g,F,aM,hv,hg,hh,_,_,_,ht⟩
 .exact zp
 .have key:∀(i k:Nat) (hi:i<L.length) (hk:k<3) (u:Value),(eL L)[i*3+k]?=some u->w.cell? ⟨g,i*3+k,none⟩=some u:=λi k hi hk u hu=>by
   have h4:(aM.toList.take (L.length*3))[i*3+k]?=aM.toList[i*3+k]?:=UR o_;exact Hw
  refine⟨some ⟨g,0,none⟩,F,hv,λi hi=>⟨g,rfl,?_,?_,?_,(Uv.1 hh).1,hg⟩⟩
  .exact key i 0 hi o_ _ (wX L i hi).1
  .exact key i 1 hi o_ _ (wX L i hi).2.1
  .exact key i 2 hi o_ _ (wX L i hi).2.2
def Tryz.infoQ:(Tryz.prog.info? 46).map (λi=>(i.zero,i.size,i.bytes))=some (some (.agg #[(),(),()]),3,24):=by kernel_rfl
def wA{ops}{rest}{o}{a}{Q}{wr}{p:Int×Int×Int}(aa:o.guard=none)(s x)
 (Z:o.op=.call {callee:=.builtin .append,args:=#[s,x],argTypes:=#[105,105]})
 (G)(v)(L:List (Int×Int×Int))(hs:a.eval s=v)(V:bD wr G v L)(hx:a.eval x=.slice wr 1 1)
 (ac:L.length<1000000000000)(U:G<=wr.heap.size)
 (h:∀v' w1,bD w1 G v' (L++[p])->Below G wr w1->(wr.alloc (.cells #[p.1,p.2.1,p.2.2] 46)).grownBy w1 v.ownBlock->(v'.ownBlock=v.ownBlock\/∃k,v'.ownBlock=some k/\wr.heap.size<=k)->wpList Tryz.prog ops Q rest (a.put o.dst v') w1):
 wpList Tryz.prog ops Q (o::rest) a (wr.alloc (.cells #[p.1,p.2.1,p.2.2] 46)):=by
 have⟨i0,hi,bi,ax,a8⟩:=VE Tryz.infoQ;refine wpList_append_own_at _ aa s x 105 Z G 46 i0 (.agg #[(),(),()]) 3 24 Tryz.underlying105 hi bi ax a8 rfl d_ v L.length (eL L) hs (Wk V _) ⟨wr,0,none⟩ 1 1 [.int .i64 p.1,.int .i64 p.2.1,.int .i64 p.2.2] hx rfl ?_ ?_ ?_ ?_ ?_ ?_
 .intro j u hj
  match j,hj with
  |0,hj=>simp at hj;subst hj;simp [Addr.add]
  |1,hj=>simp at hj;subst hj;simp [Addr.add]
  |2,hj=>simp at hj;subst hj;simp [Addr.add]
 .intro u hu;simp at hu;rcases hu with rfl|rfl|rfl<;>rfl
 .unfold maxLen;omega
 .omega
 .simp;omega
 .exact GA
def MQ{ops}{rest}{o}{a}{Q}{wr}{p q:Int×Int×Int}(aa:o.guard=none)(s x)
 (Z:o.op=.call {callee:=.builtin .append,args:=#[s,x],argTypes:=#[105,105]})
 (G)(v)(L:List (Int×Int×Int))(hs:a.eval s=v)(V:bD wr G v L)(hx:a.eval x=.slice wr 2 2)
 (ac:L.length<1000000000000)(U:G<=wr.heap.size)
 (h:∀v' w1,bD w1 G v' (L++[p,q])->Below G wr w1->(wr.alloc (.cells #[p.1,p.2.1,p.2.2,q.1,q.2.1,q.2.2] 46)).grownBy w1 v.ownBlock->(v'.ownBlock=v.ownBlock\/∃k,v'.ownBlock=some k/\wr.heap.size<=k)->wpList Tryz.prog ops Q rest (a.put o.dst v') w1):
 wpList Tryz.prog ops Q (o::rest) a (wr.alloc (.cells #[p.1,p.2.1,p.2.2,q.1,q.2.1,q.2.2] 46)):=by
 have⟨i0,hi,bi,ax,a8⟩:=VE Tryz.infoQ;refine wpList_append_own_at _ aa s x 105 Z G 46 i0 (.agg #[(),(),()]) 3 24 Tryz.underlying105 hi bi ax a8 rfl d_ v L.length (eL L) hs (Wk V _) ⟨wr,0,none⟩ 2 2 [.int .i64 p.1,.int .i64 p.2.1,.int .i64 p.2.2,.int .i64 q.1,.int .i64 q.2.1,.int .i64 q.2.2] hx rfl ?_ ?_ ?_ ?_ ?_ ?_
 .intro j u hj
  match j,hj with
  |0,hj=>simp at hj;subst hj;simp [Addr.add]
  |1,hj=>simp at hj;subst hj;simp [Addr.add]
  |2,hj=>simp at hj;subst hj;simp [Addr.add]
  |3,hj=>simp at hj;subst hj;simp [Addr.add]
  |4,hj=>simp at hj;subst hj;simp [Addr.add]
  |5,hj=>simp at hj;subst hj;simp [Addr.add]
 .intro u hu;simp at hu;rcases hu with rfl|rfl|rfl|rfl|rfl|rfl<;>rfl
 .unfold maxLen;omega
 .omega
 .simp;omega
 .exact GA
def bD.built(w:World)(p:Int×Int×Int):bD (w.alloc (.cells #[p.1,p.2.1,p.2.2] 46)) w (.slice w 1 1) [p]:=by
 refine⟨by simp [eL],.inr ⟨w,1,#[p.1,p.2.1,p.2.2],rfl,Ug _,?_,?_,?_,?_,?_⟩⟩
 .exact ag.new w _ _
 .simp
 .unfold maxLen;omega
 .simp
 .simp [eL]
def fV(A B x:Int):Int:=x*x*x+A*x+B
def Tl(A B p x):(x*x % p*x+A*x+B) % p=fV A B x % p:=
 (((Cg.mod' (Cg.refl p _)).mul (Cg.refl p x)).add (Cg.refl p (A*x))).add (Cg.refl p B)
def Hy{A p x}(hA:bj A)(hx:0<=x/\x<=1000)(G:1<=p/\p<=1000):(0<=x*x/\x*x<=1000000)/\(0<=x*x*x/\x*x*x<=1000000000)/\(-1000000<=A*x/\A*x<=1000000)/\(0<=x*x % p/\x*x % p<p)/\(0<=x*x % p*x/\x*x % p*x<=1000000):=by
 have h1:=aJ (x:=x) (y:=x) 1000 1000 o_ o_;have h0:=UJ hx.1 hx.1;have h2:=aJ (x:=x*x) (y:=x) 1000000 1000 o_ o_;have h3:=aJ (x:=A) (y:=x) 1000 1000 o_ o_;have h4:=Td (x*x) p o_;have h5:=aJ (x:=x*x % p) (y:=x) 1000 1000 o_ o_;have h6:=UJ h0 hx.1;have h7:=UJ h4.1 hx.1;omega
def Da(a n p):dU (a % p) n p=dU a n p:=qN _ _ _
def Qu(a p):gi (a % p) p=gi a p:=by unfold gi;simp only[Da]
def QL(a p):eO (a % p) p=eO a p:=by unfold eO;simp only[Da]
def Nj(A B p x:Int)(hA:bj A)(hB:a_ B)(G:1<=p/\p<=1000)(hx:0<=x/\x<=1000)(w):
 Rv 263 #[.agg #[A,B],p,x] w (fV A B x % p:Int):=by
 have⟨b1,_,b3,_,b5⟩:=Hy (p:=p) hA hx G;have cG:p≠0:=o_;go_enter Tryz.func263,Tryz.ntmps263;go_wp2
 go_region_held3 (λw'=>w'.cell? w=some (.int .i64 A)/\w'.cell? ⟨w,1,none⟩=some (.int .i64 B)/\w.heap.size<w'.heap.size/\w.heap.size<=w'.heap.size/\Below w w w')
  (first|(exact Aq rk rk)|(exact EC rk)|assumption|(exact⟨by simp,by simp,by simp,by simp,((Uk _ _).alloc (Ug _) _).drew⟩)|(exact⟨by simp,by simp,by simp,by simp,(((Uk _ _).alloc (Ug _) _).alloc s_ _).drew⟩))
  (first
    |(go_at_call 304;refine (xw _ _ o_ o_ _).mono ?_;rintro e w' ⟨rfl,rfl⟩))
 all_goals go_wp2
 all_goals go_ret
 all_goals
  rename_i hS;refine⟨DX ?_,hS.2.2.2.2⟩;rw[<-(h_ (Tl A B p x)).out];simp (disch:=omega) only[Vd,Vv]
def GS(h:P:=by simp [results,Tryz.results254,go_sem]):=h
def Gz(h:P:=by simp [results,Tryz.results286,go_sem]):=h
def D7{a b:Int}(hb:1<=b)(h:a.tmod b<0):a.tdiv b - 1=a / b:=by
 have e:=Int.tmod_add_mul_tdiv a b;have h2:-b<a.tmod b:=by
  have:=Int.tmod_lt_of_pos (-a) (show 0<b by omega);rw[Int.neg_tmod] at this;omega
 have:a=(a.tmod b+b)+b*(a.tdiv b - 1):=by rw[Int.mul_sub];omega
 rw[this,WE _ _ o_,Wu o_ o_,<-this];omega
def DQ{a b:Int}(hb:1<=b)(h:¬a.tmod b<0):a.tdiv b=a / b:=by
 have h2:a.tmod b<b:=Int.tmod_lt_of_pos a o_;have:=(Int.tmod_add_mul_tdiv a b).symm
 conv=>rhs;rw[this]
 rw[WE _ _ o_,Wu o_ h2];omega
def EO{a b:Int}(hb:1<=b)(ha:iO a):-4000000000000000000<=a.tdiv b/\a.tdiv b<=4000000000000000000:=by
 have h:(a.tdiv b).natAbs<=a.natAbs:=by rw[Yi];exact Yl _ _
 omega
def B5(a b:Int)(ha:iO a)(hb:1<=b/\b<=4000000000000000000)(w):
 Kp 254 #[a,b] w λe w'=>e=.returned (a / b:Int)/\w'=w:=by
 have a8:¬b=0:=o_;have hq:=EO hb.1 ha;by_cases h:a.tmod b<0
 .have hE:=h_ (D7 hb.1 h);obtain⟨q,g⟩:∃q,a.tdiv b=q:=⟨_,rfl⟩
  rw[g] at hE hq;go_enter Tryz.func254,Tryz.ntmps254;go_wp2;exact Uh (v:=.int .i64 (q - 1)) GS rfl ⟨by rw[hE.out],rfl⟩
 .have hE:=h_ (DQ hb.1 h);obtain⟨q,g⟩:∃q,a.tdiv b=q:=⟨_,rfl⟩
  rw[g] at hE hq;go_enter Tryz.func254,Tryz.ntmps254;go_wp2;exact Uh (v:=.int .i64 q) GS rfl ⟨by rw[hE.out],rfl⟩
def CQ(a b:Int)(ha:iO a)(hb:1<=b/\b<=4000000000000000000)(w):
 Kp 286 #[a,b] w λe w'=>e=.returned (a / b:Int)/\w'=w:=by
 have hz:(b==0)=false:=u_;have a8:¬b=0:=o_;have hq:=EO hb.1 ha;by_cases h:a.tmod b<0
 .have hE:=h_ (D7 hb.1 h);obtain⟨q,g⟩:∃q,a.tdiv b=q:=⟨_,rfl⟩
  rw[g] at hE hq;go_enter Tryz.func286,Tryz.ntmps286;go_wp2;exact Uh (v:=.int .i64 (q - 1)) Gz rfl ⟨by rw[hE.out],rfl⟩
 .have hE:=h_ (DQ hb.1 h);obtain⟨q,g⟩:∃q,a.tdiv b=q:=⟨_,rfl⟩
  rw[g] at hE hq;go_enter Tryz.func286,Tryz.ntmps286;go_wp2;exact Uh (v:=.int .i64 q) Gz rfl ⟨by rw[hE.out],rfl⟩
def GY{n d m e}(hn:sn n)(hd:1<=d/\d<=1000000000)(hm:sn m)(he:1<=e/\e<=1000000000):
 (-1000000000000000000<=n*e/\n*e<=1000000000000000000)/\(-1000000000000000000<=m*d/\m*d<=1000000000000000000)/\(1<=d*e/\d*e<=1000000000000000000)/\(-1000000000000000000<=n*m/\n*m<=1000000000000000000)/\(-1000000000000000000<=d*m/\d*m<=1000000000000000000):=by
 have h1:=aJ (x:=n) (y:=e) 1000000000 1000000000 hn o_;have h2:=aJ (x:=m) (y:=d) 1000000000 1000000000 hm o_;have h3:=aJ (x:=d) (y:=e) 1000000000 1000000000 o_ o_;have h4:=aJ (x:=n) (y:=m) 1000000000 1000000000 hn hm;have h5:=aJ (x:=d) (y:=m) 1000000000 1000000000 o_ hm;have h6:=Ur hd.1 he.1 o_ o_;omega
def DT{a:Int}(h:a≠0):(a:Rat)≠0:=λe=>h (Rat.intCast_eq_zero_iff.1 e)
def qX{n d}(hd:d≠0):bE n d≠0/\n=bE n d*bc n d/\d=bE n d*aN n d:=by
 have hg:0<Int.gcd n d:=Xy.2 (.inr hd);have g1:=Vt n d;have g2:=Vf n d;have h1:bE n d∣n/\bE n d∣d/\bE n d≠0:=by
  unfold bE ar;split
  .exact⟨Int.neg_dvd.2 g1,Int.neg_dvd.2 g2,by omega⟩
  .exact⟨g1,g2,by omega⟩
 refine⟨h1.2.2,?_,?_⟩
 .exact (WJ h1.1).symm
 .exact (WJ h1.2.1).symm
def iL(A B p:Int):Nat->Int
 |0=>0
 |k+1=>iL A B p k+eO (fV A B k) p
def gk(A B p:Int):Int:=p+1+iL A B p p.toNat
def yC(a p)(h:cn p=true)(h3:3<=p)(h1:p<1000):-1<=eO a p/\eO a p<=1:=by
 rw[<-um a p h h3 h1];unfold gi;split<;>(try split)<;>omega
theorem tL(A B p)(h:cn p=true)(h3:3<=p)(h1:p<1000):∀k:Nat,-(k)<=iL A B p k/\iL A B p k<=k
 |0=>by simp [iL]
 |k+1=>by
  have:=tL A B p h h3 h1 k;have:=yC (fV A B k) p h h3 h1;unfold iL;omega
def QK(n d m e)(hA:bJ n d=true)(hB:bJ m e=true)(w):
 Kp 329 #[.agg #[n,d],.agg #[m,e]] w λr w'=>r=.returned (decide (n*e<m*d))/\Below w w w':=by
 have⟨hd,hn⟩:=jK hA;have⟨he,hm⟩:=jK hB;have⟨b1,b2,_,_,_⟩:=GY hn hd hm he;go_enter Tryz.func329,Tryz.ntmps329;go_wp2;exact ij
def Qi(n d m e)(hA:bJ n d=true)(hB:bJ m e=true)(w):
 Kp 345 #[.agg #[n,d],.agg #[m,e]] w λr w'=>r=.returned (.tuple #[decide (n*e<m*d),true])/\Below w w w':=by
 have⟨hd,hn⟩:=jK hA;have⟨he,hm⟩:=jK hB;have⟨b1,b2,_,_,_⟩:=GY hn hd hm he;have hx:Bx w n (.int .i64 d) ((w.alloc (.cells #[n,d] 96)).alloc (.cells #[m,e] 96)):=⟨by simp [go_sem],by simp [go_sem],by simp [go_sem],by simp [go_sem],by simp;omega⟩
 have hy:Bx (w.heap.size+1) m (.int .i64 e) ((w.alloc (.cells #[n,d] 96)).alloc (.cells #[m,e] 96)):=⟨by simp [go_sem],by simp [go_sem],by simp [go_sem],by simp [go_sem],by simp⟩
 go_enter Tryz.func345,Tryz.ntmps345;go_wp2_with fail
 (go_at_call 149;refine ai (nq _ _ _) λw1 I=>?_;have⟨aZ,a6⟩:=bf I;have ax:=I.size;(try simp at ax);(try (have F:w.heap.size<w1.heap.size:=by omega));(try (have a9:=Ul ax));(try (have bs:=Ul (Uo a9))))
 go_wp2_with fail
 (go_at_call 149;refine ai (nq _ _ _) λw2 U=>?_;have⟨bo,bq⟩:=bf U;have a8:=U.size;(try simp at a8);(try (have aG:w.heap.size<w2.heap.size:=by omega));(try (have ac:=Ul a8));(try (have ab:=Ul (Uo ac)));(try (have aa:w1.heap.size<w2.heap.size:=by omega)))
 have⟨_,_,_,_,_⟩:=(hx.below I).below U;have⟨_,_,_,_,_⟩:=(hy.below I).below U;go_wp2;exact rL
def AA(p q r s t u:Int):Value:=.agg #[p,q,r,s,t,u]
def JM(h:P:=by
 go_wp2_with (first|(go_at_call 62;refine ai (HC.out _) λw1 I=>?_;obtain⟨aZ,a6⟩:=bf I;have ax:=I.size;(try simp only[Uq] at ax);(try (have F:w.heap.size<w1.heap.size:=by omega));(try (have a9:=Ul ax));(try (have bs:=Ul (Uo a9))))|(go_at_call 209;refine ai (HG.out _) λw2 U=>?_;obtain⟨bo,bq⟩:=bf U;have a8:=U.size;(try simp only[Uq] at a8);(try (have aG:w.heap.size<w2.heap.size:=by omega));(try (have ac:=Ul a8));(try (have ab:=Ul (Uo ac)));(try (have aa:w1.heap.size<w2.heap.size:=by omega))))
 exact rn):=h
def J4(h:P:=by
 go_wp2_with ((go_at_call 175;refine ai (HG.out _) λw1 I=>?_;obtain⟨aZ,a6⟩:=bf I;have ax:=I.size;(try simp only[Uq] at ax);(try (have F:w.heap.size<w1.heap.size:=by omega));(try (have a9:=Ul ax));(try (have bs:=Ul (Uo a9)))))
 exact rn):=h
def F6(h:P:=by
 obtain rfl:(k:Int)=p:=by omega
 go_wp2;go_ret;refine⟨?_,q5⟩;unfold gk;simp only[XT];refine DX ?_;omega):=h
def OX(A B p x:Int)(hA:bj A)(hB:a_ B)(G:1<=p/\p<=1000)(hx:0<=x/\x<=1000)(w):
 Rv 230 #[.agg #[A,B],p,x] w (fV A B x % p:Int):=by
 have⟨b1,b2,b3,_,_⟩:=Hy (p:=p) hA hx G;go_enter Tryz.func230,Tryz.ntmps230;go_wp2_with ((go_at_call 228;refine (qJ _ _ o_ o_ _).mono ?_;rintro e w' ⟨rfl,rfl⟩))
 exact ij
def A1(A B p:Int)(hA:bj A)(hB:a_ B)(G:3<=p/\p<=997)(Z:cn p=true)(w):
 Rv 210 #[.agg #[A,B],p] w (gk A B p):=by
 have HS:=h_ (tL A B p Z G.1 o_);have HE:=h_ (λa=>um a p Z G.1 o_);have HB:=h_ (λa=>yC a p Z G.1 o_);go_enter Tryz.func210,Tryz.ntmps210;go_wp2;go_loopw [5,8] (λc i wr=>∃k:Nat,(k:Int)<=p/\c=.int .i64 (1+(k:Int)+iL A B p k)/\i=.int .i64 k/\(wr.cell? w=some (.int .i64 A)/\wr.cell? ⟨w,1,none⟩=some (.int .i64 B)/\w.heap.size<wr.heap.size/\w.heap.size<=wr.heap.size/\Below w w wr)) (λ_ i _=>(p - intOf i).toNat)
 case atStart=>exact⟨0,by omega,by simp [iL],rfl,by simp [go_sem],by simp [go_sem],by simp,by simp,by exact z_⟩
 case round=>
  obtain⟨k,hk,rfl,rfl,q1,q2,q3,q4,q5⟩:=hrel;have bp:=HS.out k;by_cases aG:(k:Int)<p
  .have HQ:Hid (iL A B p (k+1)=iL A B p k+eO (fV A B k) p):=rfl;have g:=HB.out (fV A B k);have HM:Hid (gi (fV A B k % p) p=eO (fV A B k) p):=by show _=_;rw[Qu,HE.out]
   have H:-1<=gi (fV A B k % p) p/\gi (fV A B k % p) p<=1:=by rw[HM.out];exact g
   go_wp2_with (first|(go_at_call 263;refine (Nj _ _ _ _ hA hB o_ o_ _).mono ?_;rintro e w1 ⟨rfl,I⟩;have⟨aZ,a6⟩:=bf I;have ax:=I.size;(try simp at ax);(try (have F:w.heap.size<w1.heap.size:=by omega));(try (have a9:=Ul ax));(try (have bs:=Ul (Uo a9))))|(go_at_call 262;refine (CJ _ _ o_ o_ _).mono ?_;rintro e w' ⟨rfl,V,rfl⟩))
   go_roundw
   case rel=>exact⟨k+1,by omega,by rw[HQ.out,<-HM.out];go_num,by go_num,EC (Aq (w:=w) (B:=w.heap.size) (W:=wr) (b:=w.heap.size) ⟨q1,q2,q3,q4,q5⟩ I)⟩
   case measure=>exact aO
  .exact F6
def Cs(A B p:Int)(hA:bj A)(hB:a_ B)(G:3<=p/\p<=997)(Z:cn p=true)(w):
 Rv 176 #[.agg #[A,B],p] w (gk A B p):=by
 have HS:=h_ (tL A B p Z G.1 o_);have HE:=h_ (λa=>um a p Z G.1 o_);have HB:=h_ (λa=>yC a p Z G.1 o_);go_enter Tryz.func176,Tryz.ntmps176;go_wp2;go_loopw [5,6] (λc i wr=>∃k:Nat,(k:Int)<=p/\c=.int .i64 (p+1+iL A B p k)/\i=.int .i64 k/\(wr.cell? w=some (.int .i64 A)/\wr.cell? ⟨w,1,none⟩=some (.int .i64 B)/\w.heap.size<wr.heap.size/\w.heap.size<=wr.heap.size/\Below w w wr)) (λ_ i _=>(p - intOf i).toNat)
 case atStart=>exact⟨0,by omega,by simp [iL],rfl,by simp [go_sem],by simp [go_sem],by simp,by simp,by exact z_⟩
 case round=>
  obtain⟨k,hk,rfl,rfl,q1,q2,q3,q4,q5⟩:=hrel;have bp:=HS.out k;by_cases aG:(k:Int)<p
  .have HQ:Hid (iL A B p (k+1)=iL A B p k+eO (fV A B k) p):=rfl;have g:=HB.out (fV A B k);have HM:Hid (eO (fV A B k % p) p=eO (fV A B k) p):=by show _=_;rw[QL]
   have H:-1<=eO (fV A B k % p) p/\eO (fV A B k % p) p<=1:=by rw[HM.out];exact g
   go_wp2_with (first|(go_at_call 230;refine (OX _ _ _ _ hA hB o_ o_ _).mono ?_;rintro e w1 ⟨rfl,I⟩;have⟨aZ,a6⟩:=bf I;have ax:=I.size;(try simp at ax);(try (have F:w.heap.size<w1.heap.size:=by omega));(try (have a9:=Ul ax));(try (have bs:=Ul (Uo a9))))|(go_at_call 229;refine (BY _ _ o_ o_ _).mono ?_;rintro e w' ⟨rfl,rfl⟩))
   go_roundw
   case rel=>exact⟨k+1,by omega,by rw[HQ.out,<-HM.out];go_num,by go_num,(Aq (w:=w) (B:=w.heap.size) (W:=wr) (b:=w.heap.size) ⟨q1,q2,q3,q4,q5⟩ I)⟩
   case measure=>exact aO
  .exact F6
def jx(A B p:Int):Int:=p+1 - gk A B p
def tO{A B p}(Z:cn p=true)(G:3<=p/\p<=997):1<=gk A B p/\gk A B p<=2*p+1:=by
 have:=tL A B p Z G.1 o_ p.toNat;unfold gk;omega
def PB(A B p:Int)(hA:bj A)(hB:a_ B)(G:3<=p/\p<=997)(Z:cn p=true)(w):
 Rv 211 #[.agg #[A,B],p] w (jx A B p):=by
 have hb:=tO (A:=A) (B:=B) Z G;have HP:=h_ Z;go_enter Tryz.func211,Tryz.ntmps211;go_wp2_with ((go_at_call 210;refine ai (A1 _ _ _ hA hB G HP.out _) λw1 I=>?_;have⟨aZ,a6⟩:=bf I;have ax:=I.size;(try simp at ax);(try (have F:w.heap.size<w1.heap.size:=by omega));(try (have a9:=Ul ax));(try (have bs:=Ul (Uo a9)))))
 exact ij
def Th(A B p:Int)(hA:bj A)(hB:a_ B)(G:3<=p/\p<=997)(Z:cn p=true)(w):
 Rv 177 #[.agg #[A,B],p] w (jx A B p):=by
 have hb:=tO (A:=A) (B:=B) Z G;have HP:=h_ Z;go_enter Tryz.func177,Tryz.ntmps177;go_wp2_with ((go_at_call 176;refine ai (Cs _ _ _ hA hB G HP.out _) λw1 I=>?_;have⟨aZ,a6⟩:=bf I;have ax:=I.size;(try simp at ax);(try (have F:w.heap.size<w1.heap.size:=by omega));(try (have a9:=Ul ax));(try (have bs:=Ul (Uo a9)))))
 exact ij
noncomputable def jX(A B p v:Int):Value:=.tuple #[.int .i64 (if eX A B p then v else 0),.bool (eX A B p)]
def pm{A B p}(h:eX A B p=true):(5<=p/\p<=997)/\cn p=true:=by
 unfold eX at h;simp at h;exact⟨bH h.1.1,h.1.2⟩
def Me(A B p:Int)(hC:be A B=true)(w):
 Rv 124 #[.agg #[A,B],p] w (jX A B p (gk A B p)):=by
 have⟨hA,hB⟩:=fe hC;have h0:=λW=>Dr A B p W;rw[hC] at h0;unfold jX;cases hg:eX A B p
 .rw[hg] at h0;have HG:=h_ h0;go_enter Tryz.func124,Tryz.ntmps124;exact J4
 .rw[hg] at h0;have HG:=h_ h0;have⟨G,Z⟩:=pm hg;have HN:=h_ (Cs A B p hA hB o_ Z);generalize gk A B p=v at *;go_enter Tryz.func124,Tryz.ntmps124;go_wp2_with (first|(go_at_call 175;refine ai (HG.out _) λw1 I=>?_;have⟨aZ,a6⟩:=bf I;have ax:=I.size;(try simp at ax);(try (have F:w.heap.size<w1.heap.size:=by omega));(try (have a9:=Ul ax));(try (have bs:=Ul (Uo a9))))|(go_at_call 176;refine ai (HN.out _) λw2 U=>?_;have⟨bo,bq⟩:=bf U;have a8:=U.size;(try simp at a8);(try (have aG:w.heap.size<w2.heap.size:=by omega));(try (have ac:=Ul a8));(try (have ab:=Ul (Uo ac)));(try (have aa:w1.heap.size<w2.heap.size:=by omega))))
  exact rL
def NQ(A B p:Int)(hC:be A B=true)(w):
 Rv 125 #[.agg #[A,B],p] w (jX A B p (jx A B p)):=by
 have⟨hA,hB⟩:=fe hC;have h0:=λW=>Dr A B p W;rw[hC] at h0;unfold jX;cases hg:eX A B p
 .rw[hg] at h0;have HG:=h_ h0;go_enter Tryz.func125,Tryz.ntmps125;exact J4
 .rw[hg] at h0;have HG:=h_ h0;have⟨G,Z⟩:=pm hg;have HN:=h_ (Th A B p hA hB o_ Z);generalize jx A B p=v at *;go_enter Tryz.func125,Tryz.ntmps125;go_wp2_with (first|(go_at_call 175;refine ai (HG.out _) λw1 I=>?_;have⟨aZ,a6⟩:=bf I;have ax:=I.size;(try simp at ax);(try (have F:w.heap.size<w1.heap.size:=by omega));(try (have a9:=Ul ax));(try (have bs:=Ul (Uo a9))))|(go_at_call 177;refine ai (HN.out _) λw2 U=>?_;have⟨bo,bq⟩:=bf U;have a8:=U.size;(try simp at a8);(try (have aG:w.heap.size<w2.heap.size:=by omega));(try (have ac:=Ul a8));(try (have ab:=Ul (Uo ac)));(try (have aa:w1.heap.size<w2.heap.size:=by omega))))
  exact rL
def L8(A B p:Int)(hC:be A B=true)(w):
 Rv 154 #[.agg #[A,B],p] w (jX A B p (gk A B p)):=by
 have⟨hA,hB⟩:=fe hC;have ad:=λW=>jG A B W;rw[hC] at ad;have HC:=h_ ad;have h0:=λW=>CW A B p hA hB W;unfold jX;cases hg:eX A B p
 .rw[hg] at h0;have HG:=h_ h0;go_enter Tryz.func154,Tryz.ntmps154;exact JM
 .rw[hg] at h0;have HG:=h_ h0;have⟨G,Z⟩:=pm hg;have HN:=h_ (A1 A B p hA hB o_ Z);generalize gk A B p=v at *;go_enter Tryz.func154,Tryz.ntmps154;go_wp2_with (first|(go_at_call 62;refine ai (HC.out _) λw1 I=>?_;have⟨aZ,a6⟩:=bf I;have ax:=I.size;(try simp at ax);(try (have F:w.heap.size<w1.heap.size:=by omega));(try (have a9:=Ul ax));(try (have bs:=Ul (Uo a9))))|(go_at_call 209;refine ai (HG.out _) λw2 U=>?_;have⟨bo,bq⟩:=bf U;have a8:=U.size;(try simp at a8);(try (have aG:w.heap.size<w2.heap.size:=by omega));(try (have ac:=Ul a8));(try (have ab:=Ul (Uo ac)));(try (have aa:w1.heap.size<w2.heap.size:=by omega)))|(go_at_call 210;refine ai (HN.out _) λw3 aF=>?_;have⟨V,H⟩:=bf aF;have b9:=aF.size;(try simp at b9);(try (have ae:w.heap.size<w3.heap.size:=by omega));(try (have K:=Ul b9));(try (have a2:=Ul (Uo K)));(try (have J:w1.heap.size<w3.heap.size:=by omega));(try (have g:w2.heap.size<w3.heap.size:=by omega))))
  exact rL
def N9(A B p:Int)(hC:be A B=true)(w):
 Rv 155 #[.agg #[A,B],p] w (jX A B p (jx A B p)):=by
 have⟨hA,hB⟩:=fe hC;have ad:=λW=>jG A B W;rw[hC] at ad;have HC:=h_ ad;have h0:=λW=>CW A B p hA hB W;unfold jX;cases hg:eX A B p
 .rw[hg] at h0;have HG:=h_ h0;go_enter Tryz.func155,Tryz.ntmps155;exact JM
 .rw[hg] at h0;have HG:=h_ h0;have⟨G,Z⟩:=pm hg;have HN:=h_ (PB A B p hA hB o_ Z);generalize jx A B p=v at *;go_enter Tryz.func155,Tryz.ntmps155;go_wp2_with (first|(go_at_call 62;refine ai (HC.out _) λw1 I=>?_;have⟨aZ,a6⟩:=bf I;have ax:=I.size;(try simp at ax);(try (have F:w.heap.size<w1.heap.size:=by omega));(try (have a9:=Ul ax));(try (have bs:=Ul (Uo a9))))|(go_at_call 209;refine ai (HG.out _) λw2 U=>?_;have⟨bo,bq⟩:=bf U;have a8:=U.size;(try simp at a8);(try (have aG:w.heap.size<w2.heap.size:=by omega));(try (have ac:=Ul a8));(try (have ab:=Ul (Uo ac)));(try (have aa:w1.heap.size<w2.heap.size:=by omega)))|(go_at_call 211;refine ai (HN.out _) λw3 aF=>?_;have⟨V,H⟩:=bf aF;have b9:=aF.size;(try simp at b9);(try (have ae:w.heap.size<w3.heap.size:=by omega));(try (have K:=Ul b9));(try (have a2:=Ul (Uo K)));(try (have J:w1.heap.size<w3.heap.size:=by omega));(try (have g:w2.heap.size<w3.heap.size:=by omega))))
  exact rL
def gE(h:P:=by show _≠w.heap.size+1;omega):=h
def gG(h:P:=by show _≠w.heap.size;omega):=h
def ng(h:P:=by show _≠w.heap.size+1+1;omega):=h
def vI(h:P:=by show _<=w.heap.size+1;omega):=h
def E_(h:P:=by simp [results,Tryz.results294,go_sem,c0,c1,c2,c3,c4,c5]):=h
def Iv(h:P:=by simp [results,Tryz.results312,go_sem,R0,R1,R2,R3,R4,R5]):=h
def Jo(h:P:=by
 intro E hE bv cb;(repeat (first|(refine gB ?_;go_big_quiet_step ((go_at_call 328;exact Calls.quiet_cls hE _ (a5.out _)));refine wpQuiet_nil ?_)|refine gA ?_));exact gC rfl):=h
def bN(n:Int):Int:=n.natAbs
def ni(a x b y:Int):Bool:=decide (bN b*x<bN a*y)
def kr(a x b y c z:Int):Value:=if ni a x b y then AA (bN b) y (bN a) x (bN c) z else AA (bN a) x (bN b) y (bN c) z
def lg{n d:Int}(h:bJ n d=true):bJ (bN n) d=true:=by
 have hb:=jK h;unfold bJ at h ⊢;simp only[Ux] at h ⊢;refine⟨⟨h.1.1,?_⟩,?_⟩
 .unfold av bN;simp;omega
 .rw[<-h.2];congr 1
def xz(n d:Int)(hn:iO n)(w:World):
 Rv 328 #[.agg #[n,d]] w (.agg #[bN n,d]):=by
 obtain⟨k1,k2,hB⟩:=cr w #[n,d] 96 #[(),()] 96;go_enter Tryz.func328,Tryz.ntmps328;go_wp2;generalize (w.alloc _).alloc _=W at *;obtain⟨b3,dz⟩:=k1.q2;have V:=k1.frozen 0;have J:=k1.frozen 1;have G:=k1.lt;obtain⟨F,U⟩:=k2.q2;have K:=k2.frozen 0;have H:=k2.frozen 1;have g:=k2.lt;have bY:w.heap.size∉[w.heap.size+1]:=s_;refine br [w.heap.size+1] (λ_=>false) (λ_=>True) (ag (w.heap.size+1) #[(),()] 96) k_ k2 ?_;apply lc ⟨W,ah.refl _ _,k2⟩ [ae,ae,ae,ae,ae,ae] 1 aI aA k_ k_ k_ k_ s_
 .intro E hE bv cb;(repeat (first|(refine gB ?_;go_big_quiet_step ((go_at_call 113;exact Calls.quiet_clsS _ (lk _ hn _)));refine wpQuiet_nil ?_)|refine gA ?_));exact gC rfl
 refine aB 6 ?_;refine fm (v:=.agg #[n.natAbs,d]) (w.heap.size+1) (#[(),()]) (ag (w.heap.size+1) #[n.natAbs,d] 96) (.inr s_) (λ_ hd=>hd) aI (λ_ _ _ _ hb=>hb) (λhne=>?_)
 try simp only[Value.cells]
 refine cV λWz a7 aX=>?_
 try dsimp only
 have I:Below w.heap.size w Wz:=a7.belowGe hB hB.size s_;have c0:=aX.cell 0;have c1:=aX.cell 1;simp only[U3,UZ,UY] at c0 c1;clear a7 hne;go_wp2;refine Uh (v:=.agg #[n.natAbs,d]) (by simp [results,Tryz.results328,go_sem,c0,c1]) rfl ?_;exact⟨rfl,I⟩
def JU(w:World)(a x b y c z:Int):
 ag w.heap.size #[a,x] 96 ((((w.alloc (.cells #[a,x] 96)).alloc (.cells #[b,y] 96)).alloc (.cells #[c,z] 96)).alloc (.cells #[(),(),(),(),(),()] 175))/\
 ag (w.heap.size+1) #[b,y] 96 ((((w.alloc (.cells #[a,x] 96)).alloc (.cells #[b,y] 96)).alloc (.cells #[c,z] 96)).alloc (.cells #[(),(),(),(),(),()] 175))/\
 ag (w.heap.size+1+1) #[c,z] 96 ((((w.alloc (.cells #[a,x] 96)).alloc (.cells #[b,y] 96)).alloc (.cells #[c,z] 96)).alloc (.cells #[(),(),(),(),(),()] 175))/\
 ag (w.heap.size+1+1+1) #[(),(),(),(),(),()] 175 ((((w.alloc (.cells #[a,x] 96)).alloc (.cells #[b,y] 96)).alloc (.cells #[c,z] 96)).alloc (.cells #[(),(),(),(),(),()] 175))/\
 Below w.heap.size w ((((w.alloc (.cells #[a,x] 96)).alloc (.cells #[b,y] 96)).alloc (.cells #[c,z] 96)).alloc (.cells #[(),(),(),(),(),()] 175)):=by
 refine⟨(((ag.new w _ _).alloc _).alloc _).alloc _,?_,?_,?_,by exact z_⟩
 .have:=((ag.new (w.alloc (.cells #[a,x] 96)) #[b,y] 96).alloc (.cells #[c,z] 96)).alloc (.cells #[(),(),(),(),(),()] 175);simpa using this
 .have:=(ag.new ((w.alloc (.cells #[a,x] 96)).alloc (.cells #[b,y] 96)) #[c,z] 96).alloc (.cells #[(),(),(),(),(),()] 175);simpa using this
 .have:=ag.new (((w.alloc (.cells #[a,x] 96)).alloc (.cells #[b,y] 96)).alloc (.cells #[c,z] 96)) #[(),(),(),(),(),()] 175;simpa using this
def xG{a x b y c z:Int}(h:ni a x b y=true):kr a x b y c z=.agg #[bN b,y,bN a,x,bN c,z]:=by unfold kr;rw[h];rfl
def yh{a x b y c z:Int}(h:ni a x b y=false):kr a x b y c z=.agg #[bN a,x,bN b,y,bN c,z]:=by unfold kr;rw[h];rfl
def PP(a x b y c z:Int)(h1:bJ a x=true)(h2:bJ b y=true)(h3:bJ c z=true)(w:World):
 Rv 294 #[.agg #[a,x],.agg #[b,y],.agg #[c,z]] w (kr a x b y c z):=by
 obtain⟨kA,kB,kC,kT,hB⟩:=JU w a x b y c z;have b1:=(jK h1).2;have b2:=(jK h2).2;have b3:=(jK h3).2;have aM:Hid (∀w,_):=λw=>xz a x o_ w;have az:Hid (∀w,_):=λw=>xz b y o_ w;have a5:Hid (∀w,_):=λw=>xz c z o_ w;have HL:Hid (∀w,_):=λw=>QK (bN b) y (bN a) x (lg h2) (lg h1) w;have HY:=λh=>h_ (xG (a:=a) (x:=x) (b:=b) (y:=y) (c:=c) (z:=z) h);have HN:=λh=>h_ (yh (a:=a) (x:=x) (b:=b) (y:=y) (c:=c) (z:=z) h);have HD:Hid (decide (bN b*x<bN a*y)=ni a x b y):=rfl;rw[HD.out] at HL;clear h1 h2 h3 b1 b2 b3 HD;generalize bN a=a' at *;generalize bN b=Z at *;generalize bN c=c' at *;generalize kr a x b y c z=V at *;generalize ni a x b y=B at *;have hs:=hB.size;go_enter Tryz.func294,Tryz.ntmps294;go_wp2_with fail
 generalize (((w.alloc _).alloc _).alloc _).alloc _=W at *;refine ai (aM.out _) λw1 I=>?_;replace kA:=kA.next I
 replace kB:=kB.next I
 replace kC:=kC.next I
 replace kT:=kT.next I
 replace hB:=af I hs hB;have bz:=hB.size;clear hs I;obtain⟨bs,ba⟩:=kA.q2;have aL:=kA.frozen 0;have J:=kA.frozen 1;have bq:=kA.lt;obtain⟨bb,bo⟩:=kB.q2;have bZ:=kB.lt;go_wp2_with fail
 have aG:=(kA.set 0 a').set 1 x;have g:=(kB.far (p:=⟨w.heap.size,0,none⟩) gG a').far (p:=⟨w.heap.size,1,none⟩) gG x;have ab:=(kC.far (p:=⟨w.heap.size,0,none⟩) gG a').far (p:=⟨w.heap.size,1,none⟩) gG x;have H:=(kT.far (p:=⟨w.heap.size,0,none⟩) gG a').far (p:=⟨w.heap.size,1,none⟩) gG x;have aa:Below w.heap.size w ((w1.setCell ⟨w.heap.size,0,none⟩ a').setCell ⟨w.heap.size,1,none⟩ x):=(hB.setCell (Ug _) _).setCell (Ug _) _;have ad:=aa.size;clear kA kB kC kT hB bz bs ba aL J bq bb bo bZ;simp only[UK,UV,U1] at aG;generalize (w1.setCell _ _).setCell _ _=W2 at *;refine ai (az.out _) λw3 aF=>?_;replace aG:=aG.next aF
 replace g:=g.next aF
 replace ab:=ab.next aF
 replace H:=H.next aF
 replace aa:=af aF ad aa;have b0:=aa.size;clear ad aF;have q0:=aG.cell 0;have q1:=aG.cell 1;simp only[U3,UZ,UY] at q0 q1;have qA:=aG.lt;obtain⟨bp,a9⟩:=g.q2;have a8:=g.frozen 0;have a6:=g.frozen 1;have bx:=g.lt;go_wp2_with fail
 have a2:=(aG.far (p:=⟨w.heap.size+1,0,none⟩) gE Z).far (p:=⟨w.heap.size+1,1,none⟩) gE y;have U:=(g.set 0 Z).set 1 y;have bi:=(ab.far (p:=⟨w.heap.size+1,0,none⟩) gE Z).far (p:=⟨w.heap.size+1,1,none⟩) gE y;have G:=(H.far (p:=⟨w.heap.size+1,0,none⟩) gE Z).far (p:=⟨w.heap.size+1,1,none⟩) gE y;have a4:Below w.heap.size w ((w3.setCell ⟨w.heap.size+1,0,none⟩ Z).setCell ⟨w.heap.size+1,1,none⟩ y):=(aa.setCell vI _).setCell vI _;have bX:=a4.size;clear aG g ab H aa b0 q0 q1 qA bp a9 a8 a6 bx;simp only[UK,UV,U1] at U;generalize (w3.setCell _ _).setCell _ _=W4 at *;refine ai (HL.out _) λW5 ac=>?_;have K:=a2.next ac
 have aZ:=U.next ac
 have a1:=bi.next ac
 have F:=G.next ac
 have a3:=af ac bX a4;clear a2 U bi G a4 bX ac;have q0:=K.cell 0;have q1:=K.cell 1;have r0:=aZ.cell 0;have r1:=aZ.cell 1;have s0:=a1.cell 0;have s1:=a1.cell 1;simp only[U3,UZ,UY] at q0 q1 r0 r1 s0 s1;have b5:=K.lt;have bY:=aZ.lt;have b4:=a1.lt;have n1:w.heap.size∉[w.heap.size+1+1+1]:=u_;have n2:w.heap.size+1∉[w.heap.size+1+1+1]:=s_;have n3:w.heap.size+1+1∉[w.heap.size+1+1+1]:=s_;clear aM az HL;cases B
 .have HV:=HN rfl;clear HY HN;go_wp2;refine br [w.heap.size+1+1+1] (λ_=>false) (λ_=>True) (ag (w.heap.size+1+1+1) #[(),(),(),(),(),()] 175) k_ F ?_;apply lc ⟨W5,ah.refl _ _,F⟩ [ae,ae,ae,ae,ae] 1 aI aA k_ k_ k_ k_ s_
  .exact Jo
  refine aB 5 ?_;refine fm (v:=.agg #[a',x,Z,y,c',z]) (w.heap.size+1+1+1) (#[(),(),(),(),(),()]) (ag (w.heap.size+1+1+1) #[a',x,Z,y,c',z] 175) (.inr s_) (λ_ hd=>hd) aI (λ_ _ _ _ hb=>hb) (λhne=>?_)
  try simp only[Value.cells]
  refine cV λWz a7 aX=>?_
  try dsimp only
  have ax:Below w.heap.size w Wz:=a7.belowGe a3 a3.size u_;have c0:=aX.cell 0;have c1:=aX.cell 1;have c2:=aX.cell 2;have c3:=aX.cell 3;have c4:=aX.cell 4;have c5:=aX.cell 5;simp only[U3,UZ,UY] at c0 c1 c2 c3 c4 c5;clear a7 hne;go_wp2;refine Uh (v:=.agg #[a',x,Z,y,c',z]) E_ rfl ?_;exact⟨by rw[HV.out],ax⟩
 .have HV:=HY rfl;clear HY HN;go_wp2;refine br [w.heap.size+1+1+1] (λ_=>false) (λ_=>True) (ag (w.heap.size+1+1+1) #[(),(),(),(),(),()] 175) k_ F ?_;apply lc ⟨W5,ah.refl _ _,F⟩ [ae,ae,ae,ae,ae] 1 aI aA k_ k_ k_ k_ s_
  .exact Jo
  refine aB 5 ?_;refine fm (v:=.agg #[Z,y,a',x,c',z]) (w.heap.size+1+1+1) (#[(),(),(),(),(),()]) (ag (w.heap.size+1+1+1) #[Z,y,a',x,c',z] 175) (.inr s_) (λ_ hd=>hd) aI (λ_ _ _ _ hb=>hb) (λhne=>?_)
  try simp only[Value.cells]
  refine cV λWz a7 aX=>?_
  try dsimp only
  have ax:Below w.heap.size w Wz:=a7.belowGe a3 a3.size u_;have c0:=aX.cell 0;have c1:=aX.cell 1;have c2:=aX.cell 2;have c3:=aX.cell 3;have c4:=aX.cell 4;have c5:=aX.cell 5;simp only[U3,UZ,UY] at c0 c1 c2 c3 c4 c5;clear a7 hne;go_wp2;refine Uh (v:=.agg #[Z,y,a',x,c',z]) E_ rfl ?_;exact⟨by rw[HV.out],ax⟩
def LQ(a x b y c z:Int)(h1:bJ a x=true)(h2:bJ b y=true)(h3:bJ c z=true)(w:World):
 Rv 312 #[.agg #[a,x],.agg #[b,y],.agg #[c,z]] w (kr a x b y c z):=by
 obtain⟨kA,kB,kC,kT,hB⟩:=JU w a x b y c z;have b1:=(jK h1).2;have b2:=(jK h2).2;have b3:=(jK h3).2;have HL:Hid (∀w,_):=λw=>Qi (bN b) y (bN a) x (lg h2) (lg h1) w;have HY:=λh=>h_ (xG (a:=a) (x:=x) (b:=b) (y:=y) (c:=c) (z:=z) h);have HN:=λh=>h_ (yh (a:=a) (x:=x) (b:=b) (y:=y) (c:=c) (z:=z) h);have HD:Hid (decide (bN b*x<bN a*y)=ni a x b y):=rfl;rw[HD.out] at HL;clear h1 h2 h3 HD;generalize kr a x b y c z=V at *;generalize ni a x b y=B at *;have kA:=kA.alloc (.cells #[.pointer (some ⟨w.heap.size,0,none⟩),.pointer (some ⟨w.heap.size+1,0,none⟩),.pointer (some ⟨w.heap.size+1+1,0,none⟩)] 278);have kB:=kB.alloc (.cells #[.pointer (some ⟨w.heap.size,0,none⟩),.pointer (some ⟨w.heap.size+1,0,none⟩),.pointer (some ⟨w.heap.size+1+1,0,none⟩)] 278);have kC:=kC.alloc (.cells #[.pointer (some ⟨w.heap.size,0,none⟩),.pointer (some ⟨w.heap.size+1,0,none⟩),.pointer (some ⟨w.heap.size+1+1,0,none⟩)] 278);obtain⟨-,-,-,-,kP,-⟩:=T8 w #[a,x] 96 #[b,y] 96 #[c,z] 96 #[(),(),(),(),(),()] 175 #[.pointer (some ⟨w.heap.size,0,none⟩),.pointer (some ⟨w.heap.size+1,0,none⟩),.pointer (some ⟨w.heap.size+1+1,0,none⟩)] 278;have kT:=kT.alloc (.cells #[.pointer (some ⟨w.heap.size,0,none⟩),.pointer (some ⟨w.heap.size+1,0,none⟩),.pointer (some ⟨w.heap.size+1+1,0,none⟩)] 278);have hB:=hB.alloc hB.size (.cells #[.pointer (some ⟨w.heap.size,0,none⟩),.pointer (some ⟨w.heap.size+1,0,none⟩),.pointer (some ⟨w.heap.size+1+1,0,none⟩)] 278);have hs:=hB.size;go_enter Tryz.func312,Tryz.ntmps312;go_wp2;generalize ((((w.alloc _).alloc _).alloc _).alloc _).alloc _=W at *;go_loopw [13] (λi wr=>∃k:Nat,k<=3/\i=.int .i64 k/\ag (w.heap.size) #[.int .i64 (if 0<k then bN a else a),x] 96 wr/\ag (w.heap.size+1) #[.int .i64 (if 1<k then bN b else b),y] 96 wr/\ag (w.heap.size+1+1) #[.int .i64 (if 2<k then bN c else c),z] 96 wr/\ag (w.heap.size+1+1+1) #[(),(),(),(),(),()] 175 wr/\ag (w.heap.size+1+1+1+1) #[.pointer (some ⟨w.heap.size,0,none⟩),.pointer (some ⟨w.heap.size+1,0,none⟩),.pointer (some ⟨w.heap.size+1+1,0,none⟩)] 278 wr/\Below w.heap.size w wr) (λi _=>3 - (intOf i).toNat)
 case atStart=>exact⟨0,by omega,rfl,kA,kB,kC,kT,kP,hB⟩
 case round=>
  clear kA kB kC kT kP hB;obtain⟨k,hk,rfl,kA,kB,kC,kT,kP,F⟩:=hrel;rcases (by omega:k=0\/k=1\/k=2\/k=3) with rfl|rfl|rfl|rfl
  .rw[Uj d_] at kA;rw[Uj d_] at kB;rw[Uj d_] at kC;rcases UF a 0 with bX|bX
   .have ea:bN a=-a:=by unfold bN;omega
    obtain⟨bs,ba⟩:=kA.q2;have aL:=kA.frozen 0;have J:=kA.frozen 1;have bq:=kA.lt;have p0:=kP.cell 0;simp only[U3,UZ] at p0;have ca:=kP.lt;clear ea;go_wp2
    go_big_region
    all_goals go_wp2
    have ea:bN a=-a:=by unfold bN;omega
    go_roundw
    case rel=>
     refine⟨1,by omega,by go_num,?_,?_,?_,?_,?_,?_⟩
     .rw[Um d_,ea];exact ag.drew (kA.set 0 (-a:Int))
     .rw[Uj d_];exact ag.drew (kB.far gG _)
     .rw[Uj d_];exact ag.drew (kC.far gG _)
     .exact ag.drew (kT.far gG _)
     .exact ag.drew (kP.far gG _)
     .exact (F.setCell (by show _<=w.heap.size;omega) _).drew
    case measure=>simp [intOf]
   .have ea:bN a=a:=by unfold bN;omega
    obtain⟨bs,ba⟩:=kA.q2;have aL:=kA.frozen 0;have J:=kA.frozen 1;have bq:=kA.lt;have p0:=kP.cell 0;simp only[U3,UZ] at p0;have ca:=kP.lt;clear ea;go_wp2
    go_big_region
    all_goals go_wp2
    have ea:bN a=a:=by unfold bN;omega
    go_roundw
    case rel=>
     refine⟨1,by omega,by go_num,?_,?_,?_,?_,?_,?_⟩
     .rw[Um d_,ea];exact ag.drew (kA.set 0 a)
     .rw[Uj d_];exact ag.drew (kB.far gG _)
     .rw[Uj d_];exact ag.drew (kC.far gG _)
     .exact ag.drew (kT.far gG _)
     .exact ag.drew (kP.far gG _)
     .exact (F.setCell (by show _<=w.heap.size;omega) _).drew
    case measure=>simp [intOf]
  .rw[Um d_] at kA;rw[Uj d_] at kB;rw[Uj d_] at kC;rcases UF b 0 with bp|bp
   .have eb:bN b=-b:=by unfold bN;omega
    obtain⟨bb,bo⟩:=kB.q2;have bz:=kB.frozen 0;have aX:=kB.frozen 1;have bZ:=kB.lt;have p0:=kP.cell 1;simp only[U3,UZ,UY] at p0;have ca:=kP.lt;clear eb;go_wp2
    go_big_region
    all_goals go_wp2
    have eb:bN b=-b:=by unfold bN;omega
    go_roundw
    case rel=>
     refine⟨2,by omega,by go_num,?_,?_,?_,?_,?_,?_⟩
     .rw[Um d_];exact ag.drew (kA.far gE _)
     .rw[Um d_,eb];exact ag.drew (kB.set 0 (-b:Int))
     .rw[Uj d_];exact ag.drew (kC.far gE _)
     .exact ag.drew (kT.far gE _)
     .exact ag.drew (kP.far gE _)
     .exact (F.setCell vI _).drew
    case measure=>simp [intOf]
   .have eb:bN b=b:=by unfold bN;omega
    obtain⟨bb,bo⟩:=kB.q2;have bz:=kB.frozen 0;have aX:=kB.frozen 1;have bZ:=kB.lt;have p0:=kP.cell 1;simp only[U3,UZ,UY] at p0;have ca:=kP.lt;clear eb;go_wp2
    go_big_region
    all_goals go_wp2
    have eb:bN b=b:=by unfold bN;omega
    go_roundw
    case rel=>
     refine⟨2,by omega,by go_num,?_,?_,?_,?_,?_,?_⟩
     .rw[Um d_];exact ag.drew (kA.far gE _)
     .rw[Um d_,eb];exact ag.drew (kB.set 0 b)
     .rw[Uj d_];exact ag.drew (kC.far gE _)
     .exact ag.drew (kT.far gE _)
     .exact ag.drew (kP.far gE _)
     .exact (F.setCell vI _).drew
    case measure=>simp [intOf]
  .rw[Um d_] at kA;rw[Um d_] at kB;rw[Uj d_] at kC;rcases UF c 0 with aF|aF
   .have ec:bN c=-c:=by unfold bN;omega
    obtain⟨a4,a3⟩:=kC.q2;have a2:=kC.frozen 0;have a9:=kC.frozen 1;have a5:=kC.lt;have p0:=kP.cell 2;simp only[U3,UZ,UY] at p0;have ca:=kP.lt;clear ec;go_wp2
    go_big_region
    all_goals go_wp2
    have ec:bN c=-c:=by unfold bN;omega
    go_roundw
    case rel=>
     refine⟨3,by omega,by go_num,?_,?_,?_,?_,?_,?_⟩
     .rw[Um d_];exact ag.drew (kA.far ng _)
     .rw[Um d_];exact ag.drew (kB.far ng _)
     .rw[Um d_,ec];exact ag.drew (kC.set 0 (-c:Int))
     .exact ag.drew (kT.far ng _)
     .exact ag.drew (kP.far ng _)
     .exact (F.setCell (by show _<=w.heap.size+1+1;omega) _).drew
    case measure=>simp [intOf]
   .have ec:bN c=c:=by unfold bN;omega
    obtain⟨a4,a3⟩:=kC.q2;have a2:=kC.frozen 0;have a9:=kC.frozen 1;have a5:=kC.lt;have p0:=kP.cell 2;simp only[U3,UZ,UY] at p0;have ca:=kP.lt;clear ec;go_wp2
    go_big_region
    all_goals go_wp2
    have ec:bN c=c:=by unfold bN;omega
    go_roundw
    case rel=>
     refine⟨3,by omega,by go_num,?_,?_,?_,?_,?_,?_⟩
     .rw[Um d_];exact ag.drew (kA.far ng _)
     .rw[Um d_];exact ag.drew (kB.far ng _)
     .rw[Um d_,ec];exact ag.drew (kC.set 0 c)
     .exact ag.drew (kT.far ng _)
     .exact ag.drew (kP.far ng _)
     .exact (F.setCell (by show _<=w.heap.size+1+1;omega) _).drew
    case measure=>simp [intOf]
  .rw[Um d_] at kA kB kC;clear b1 b2 b3;generalize bN a=a' at *;generalize bN b=Z at *;generalize bN c=c' at *;obtain⟨bs,ba⟩:=kA.q2;have bq:=kA.lt;obtain⟨bb,bo⟩:=kB.q2;have bZ:=kB.lt;have ad:=F.size;go_wp2_with fail
   refine ai (HL.out _) λw5 ac=>?_;have lA:=kA.next ac
   have lB:=kB.next ac
   have lC:=kC.next ac
   have lT:=kT.next ac
   have aZ:=af ac ad F;have cT:=aZ.size;clear kA kB kC kT kP F ac ad HL bs ba bb bo bq bZ;obtain⟨a7,b6⟩:=lA.q2;have G:=lA.frozen 0;have K:=lA.frozen 1;have az:=lA.lt;obtain⟨b0,a1⟩:=lB.q2;have U:=lB.frozen 0;have I:=lB.frozen 1;have b7:=lB.lt;obtain⟨aM,a8⟩:=lC.q2;have b5:=lC.lt;obtain⟨aG,b4,bx,a6,bY,bi⟩:=lT.q6;have g:=lT.frozen 0;have ae:=lT.frozen 1;have ab:=lT.frozen 2;have H:=lT.frozen 3;have ax:=lT.frozen 4;have aa:=lT.frozen 5;have bv:=lT.lt;cases B
   .have HV:=HN rfl;clear HY HN;go_wp2;have R:=((((((lT.set 0 a').set 1 x).set 2 Z).set 3 y).set 4 c').set 5 z)
    have hR:Below w.heap.size w ((((((w5.setCell ⟨w.heap.size+1+1+1,0,none⟩ a').setCell ⟨w.heap.size+1+1+1,1,none⟩ x).setCell ⟨w.heap.size+1+1+1,2,none⟩ Z).setCell ⟨w.heap.size+1+1+1,3,none⟩ y).setCell ⟨w.heap.size+1+1+1,4,none⟩ c').setCell ⟨w.heap.size+1+1+1,5,none⟩ z):=by exact z_
    simp only[UK,UV,U1] at R;clear lA lB lC lT a7 b6 G K az b0 a1 U I b7 aM a8 b5 aG b4 bx a6 bY bi g ae ab H ax aa bv;generalize ((((((w5.setCell ⟨w.heap.size+1+1+1,0,none⟩ a').setCell ⟨w.heap.size+1+1+1,1,none⟩ x).setCell ⟨w.heap.size+1+1+1,2,none⟩ Z).setCell ⟨w.heap.size+1+1+1,3,none⟩ y).setCell ⟨w.heap.size+1+1+1,4,none⟩ c').setCell ⟨w.heap.size+1+1+1,5,none⟩ z)=W9 at R hR ⊢;obtain⟨R0,R1,R2,R3,R4,R5⟩:=R.q6;have Rl:=R.lt;refine Uh (v:=.agg #[a',x,Z,y,c',z]) Iv rfl ?_;exact⟨by rw[HV.out],hR⟩
   .have HV:=HY rfl;clear HY HN;go_wp2;have R:=((((((((((lT.far (p:=⟨w.heap.size,0,none⟩) gG Z).far (p:=⟨w.heap.size,1,none⟩) gG y).far (p:=⟨w.heap.size+1,0,none⟩) gE a').far (p:=⟨w.heap.size+1,1,none⟩) gE x).set 0 Z).set 1 y).set 2 a').set 3 x).set 4 c').set 5 z)
    have hR:Below w.heap.size w ((((((((((w5.setCell ⟨w.heap.size,0,none⟩ Z).setCell ⟨w.heap.size,1,none⟩ y).setCell ⟨w.heap.size+1,0,none⟩ a').setCell ⟨w.heap.size+1,1,none⟩ x).setCell ⟨w.heap.size+1+1+1,0,none⟩ Z).setCell ⟨w.heap.size+1+1+1,1,none⟩ y).setCell ⟨w.heap.size+1+1+1,2,none⟩ a').setCell ⟨w.heap.size+1+1+1,3,none⟩ x).setCell ⟨w.heap.size+1+1+1,4,none⟩ c').setCell ⟨w.heap.size+1+1+1,5,none⟩ z):=by exact z_
    simp only[UK,UV,U1] at R;clear lA lB lC lT a7 b6 G K az b0 a1 U I b7 aM a8 b5 aG b4 bx a6 bY bi g ae ab H ax aa bv;generalize ((((((((((w5.setCell ⟨w.heap.size,0,none⟩ Z).setCell ⟨w.heap.size,1,none⟩ y).setCell ⟨w.heap.size+1,0,none⟩ a').setCell ⟨w.heap.size+1,1,none⟩ x).setCell ⟨w.heap.size+1+1+1,0,none⟩ Z).setCell ⟨w.heap.size+1+1+1,1,none⟩ y).setCell ⟨w.heap.size+1+1+1,2,none⟩ a').setCell ⟨w.heap.size+1+1+1,3,none⟩ x).setCell ⟨w.heap.size+1+1+1,4,none⟩ c').setCell ⟨w.heap.size+1+1+1,5,none⟩ z)=W9 at R hR ⊢;obtain⟨R0,R1,R2,R3,R4,R5⟩:=R.q6;have Rl:=R.lt;refine Uh (v:=.agg #[Z,y,a',x,c',z]) Iv rfl ?_;exact⟨by rw[HV.out],hR⟩
def cvV(A B x e:Int):Int:=x*x*x+A*x*e*e*e*e+B*e*e*e*e*e*e
def gK{x y}{a b}(hx:-a<=x/\x<=a)(hy:-b<=y/\y<=b):-(a*b)<=x*y/\x*y<=a*b:=aJ a b hx hy
def At{A B x e}(hA:bj A)(hB:a_ B)(hx:a_ x)(he:1<=e/\e<=20):
 (1<=e*e/\e*e<=400)/\(-100000000<=x*x/\x*x<=100000000)/\(-1000000000000<=x*x*x/\x*x*x<=1000000000000)/\
 (-10000000<=A*x/\A*x<=10000000)/\(-200000000<=A*x*e/\A*x*e<=200000000)/\(-4000000000<=A*x*e*e/\A*x*e*e<=4000000000)/\(-80000000000<=A*x*e*e*e/\A*x*e*e*e<=80000000000)/\(-1600000000000<=A*x*e*e*e*e/\A*x*e*e*e*e<=1600000000000)/\
 (-200000<=B*e/\B*e<=200000)/\(-4000000<=B*e*e/\B*e*e<=4000000)/\(-80000000<=B*e*e*e/\B*e*e*e<=80000000)/\(-1600000000<=B*e*e*e*e/\B*e*e*e*e<=1600000000)/\(-32000000000<=B*e*e*e*e*e/\B*e*e*e*e*e<=32000000000)/\(-640000000000<=B*e*e*e*e*e*e/\B*e*e*e*e*e*e<=640000000000):=by
 have g:-20<=e/\e<=20:=o_;have h0:=Ur he.1 he.1 o_ o_;have h1:=gK g g;have h2:=gK hx hx;have h3:=gK (a:=100000000) h2 hx;have h4:=gK hA hx;have h5:=gK (a:=10000000) h4 g;have h6:=gK (a:=200000000) h5 g;have h7:=gK (a:=4000000000) h6 g;have h8:=gK (a:=80000000000) h7 g;have k1:=gK hB g;have k2:=gK (a:=200000) k1 g;have F:=gK (a:=4000000) k2 g;have H:=gK (a:=80000000) F g;have k5:=gK (a:=1600000000) H g;have U:=gK (a:=32000000000) k5 g;omega
def sK(A B x e:Int)(hA:bj A)(hB:a_ B)(hx:a_ x)(he:1<=e/\e<=20)(w):
 Kp 65 #[.agg #[A,B],x,e] w λr w'=>r=.returned (cvV A B x e)/\Below w w w':=by
 have⟨_,a2,a3,a4,a5,g,F,G,b1,b2,b3,b4,b5,b6⟩:=At hA hB hx he;go_enter Tryz.func65,Tryz.ntmps65;go_wp2;exact ij
def xb(A B x e:Int)(hA:bj A)(hB:a_ B)(hx:a_ x)(he:1<=e/\e<=20)(w):
 Kp 170 #[.agg #[A,B],x,e] w λr w'=>r=.returned (cvV A B x e)/\Below w w w':=by
 have⟨a1,a2,a3,a4,_,g,_,G,_,b2,_,b4,_,b6⟩:=At hA hB hx he;have e1:A*x*(e*e)=A*x*e*e:=by ac_rfl
 have e2:A*x*(e*e)*(e*e)=A*x*e*e*e*e:=by ac_rfl
 have e3:B*(e*e)=B*e*e:=by ac_rfl
 have e4:B*(e*e)*(e*e)=B*e*e*e*e:=by ac_rfl
 have e5:B*(e*e)*(e*e)*(e*e)=B*e*e*e*e*e*e:=by ac_rfl
 have g1:-4000000000<=A*x*(e*e)/\A*x*(e*e)<=4000000000:=by rw[e1];exact g
 have g2:-1600000000000<=A*x*(e*e)*(e*e)/\A*x*(e*e)*(e*e)<=1600000000000:=by rw[e2];exact G
 have g3:-4000000<=B*(e*e)/\B*(e*e)<=4000000:=by rw[e3];exact b2
 have g4:-1600000000<=B*(e*e)*(e*e)/\B*(e*e)*(e*e)<=1600000000:=by rw[e4];exact b4
 have g5:-640000000000<=B*(e*e)*(e*e)*(e*e)/\B*(e*e)*(e*e)*(e*e)<=640000000000:=by rw[e5];exact b6
 have HV:Hid (cvV A B x e=x*x*x+A*x*(e*e)*(e*e)+B*(e*e)*(e*e)*(e*e)):=by show _=_;unfold cvV;rw[e2,e5]
 rw[HV.out];clear e1 e2 e3 e4 e5;go_enter Tryz.func170,Tryz.ntmps170;go_wp2;exact ij
def jS(A B X Y E:Int):Bool:=av X (-10000) 10000&&av E 1 20&&(ar X E==1)&&av Y (-3000000) 3000000&&(Y*Y==cvV A B X E)
def dN(A B X Y E:Int):Bool:=(X==0&&Y==0&&E==0)||jS A B X Y E
def ly{A B x e}(hA:bj A)(hB:a_ B)(hx:a_ x)(he:1<=e/\e<=20):-4000000000000<=cvV A B x e/\cvV A B x e<=4000000000000:=by
 have⟨_,_,a3,_,_,_,_,G,_,_,_,_,_,b6⟩:=At hA hB hx he;unfold cvV;omega
def R9{A B x e Y}(hA:bj A)(hB:a_ B)(hx:a_ x)(he:1<=e/\e<=20):(av Y (-10000000) 10000000&&(Y*Y==cvV A B x e))=(av Y (-3000000) 3000000&&(Y*Y==cvV A B x e)):=by
 have hv:=ly hA hB hx he;cases hq:(Y*Y==cvV A B x e)
 .simp
 .have hy:=by simpa using hq
  have hb:-3000000<=Y/\Y<=3000000:=by
   constructor
   .rcases UF Y (-3000000) with h|h
    .have:=Ur (show 3000000<=-Y by omega) (show 3000000<=-Y by omega) o_ o_;rw[U6] at this;omega
    .exact h
   .rcases UF 3000000 Y with h|h
    .have:=Ur (show 3000000<=Y by omega) (show 3000000<=Y by omega) o_ o_;omega
    .exact h
  rw[gc o_ o_,gc hb.1 hb.2]
def Gh(h:P:=by
 go_enter Tryz.func243,Tryz.ntmps243;go_wp2_with ((go_at_call 110;refine ay (HQ.out _) ?_))
 refine Uh (v:=.tuple #[.agg #[(),(),(),(),(),()],false]) (by simp [results,Tryz.results243,go_sem]) rfl ?_;exact DW HE.out (by exact z_)):=h
def FO(h:P:=by
 go_enter Tryz.func273,Tryz.ntmps273;go_wp2_with ((go_at_call 148;refine ay (HQ.out _) ?_))
 refine Uh (v:=.tuple #[.agg #[(),(),(),(),(),()],false]) (by simp [results,Tryz.results273,go_sem]) rfl ?_;exact DW HE.out (by exact z_)):=h
def ny{n d:Int}(hn:1<=n/\n<=1000000000)(hd:1<=d/\d<=1000000000):jA n d=true:=by
 have hg:0<Int.gcd n d:=Xy.2 (.inl o_);have h1:((Int.gcd n d:Nat):Int)∣n:=Vt n d;have h2:((Int.gcd n d:Nat):Int)∣d:=Vf n d;have hG:bE n d=(Int.gcd n d:Nat):=by unfold bE ar;rw[Uj o_]
 have e1:bc n d=n / (Int.gcd n d:Nat):=by unfold bc;rw[hG,VP o_]
 have e2:aN n d=d / (Int.gcd n d:Nat):=by unfold aN;rw[hG,VP o_]
 have hc:Int.gcd (n / (Int.gcd n d:Nat)) (d / (Int.gcd n d:Nat))=1:=Int.gcd_ediv_gcd_ediv_gcd hg;have p1:1<=n / (Int.gcd n d:Nat):=by have:=WK (show 0<n by omega) o_ h1;omega
 have p2:1<=d / (Int.gcd n d:Nat):=by have:=WK (show 0<d by omega) o_ h2;omega
 have p3:=VQ ((Int.gcd n d:Nat):Int) (show 0<=n by omega);have p4:=VQ ((Int.gcd n d:Nat):Int) (show 0<=d by omega);have bZ:(d==0)=false:=u_;unfold jA ks;rw[bZ,e1,e2];unfold bJ;simp only[Bool.not_false,Wl,Ux,VC];refine⟨⟨gc o_ o_,gc o_ o_⟩,?_⟩;unfold ar;rw[hc];rfl
def mb{n d:Int}(hn:1<=n/\n<=1000000000)(hd:1<=d/\d<=1000000000):bJ (bc n d) (aN n d)=true:=by
 have h:=ny hn hd;unfold jA at h;simp only[Ux] at h;exact h.2
def bh(u v:Int):Int:=u*v*(u*u - v*v)
def fc(n u v:Int):Bool:=(bh u v % n==0)&&ce (bh u v / n)
def lL(n u v:Int):Value:=kr (bc (u*u - v*v) (ap (bh u v / n))) (aN (u*u - v*v) (ap (bh u v / n))) (bc (2*u*v) (ap (bh u v / n))) (aN (2*u*v) (ap (bh u v / n))) (bc (u*u+v*v) (ap (bh u v / n))) (aN (u*u+v*v) (ap (bh u v / n)))
def Az:Value:=.agg #[(),(),(),(),(),()]
def lI(n u v:Int):Value:=if fc n u v then lL n u v else Az
def mX(w:World)(V:Value)(b:Bool)(e:Ending)(w':World):Prop:=e=.returned (.tuple #[V,b])/\Below w.heap.size w w'
def DW{w w':World}{n u v:Int}(h:fc n u v=false)(hb:Below w.heap.size w w'):mX w (lI n u v) (fc n u v) (.returned (.tuple #[.agg #[(),(),(),(),(),()],false])) w':=by
 unfold lI;rw[h];exact⟨rfl,hb⟩
def DI{w w':World}{n u v a b c d e f:Int}(h:fc n u v=true)(hV:lL n u v=.agg #[a,b,c,d,e,f])(hb:Below w.heap.size w w'):mX w (lI n u v) (fc n u v) (.returned (.tuple #[.agg #[a,b,c,d,e,f],true])) w':=by
 unfold lI;rw[h,<-hV];exact⟨rfl,hb⟩
def tg(a x b y c z:Int):∃p q r s t u:Int,kr a x b y c z=.agg #[p,q,r,s,t,u]:=by
 unfold kr AA;split<;>exact⟨_,_,_,_,_,_,rfl⟩
def rq{u v:Int}(hu:1<=u/\u<=100)(hv:1<=v/\v<=u - 1):
 (1<=u*v/\u*v<=10000)/\(1<=u*u/\u*u<=10000)/\(1<=v*v/\v*v<=10000)/\(1<=u*u - v*v/\u*u - v*v<=10000)/\(1<=bh u v/\bh u v<=100000000):=by
 have h1:1*1<=u*v:=Ur hu.1 hv.1 o_ o_;have h2:u*v<=100*100:=Ur hu.2 (show v<=100 by omega) o_ o_;have h3:u*u<=100*100:=Ur hu.2 hu.2 o_ o_;have h4:1*1<=v*v:=Ur hv.1 hv.1 o_ o_;have h5:(v+1)*(v+1)<=u*u:=Ur o_ o_ o_ o_;have h6:(v+1)*(v+1)=v*v+2*v+1:=by rw[XG,Vj];omega
 have h7:1<=u*u - v*v/\u*u - v*v<=10000:=o_;have h8:1*1<=u*v*(u*u - v*v):=Ur o_ h7.1 o_ o_;have h9:u*v*(u*u - v*v)<=10000*10000:=Ur o_ h7.2 o_ o_;unfold bh;omega
def TW{a:Int}(h:1<=a/\a<=100000000):1<=ap a/\ap a<=20000:=by
 have h1:=nI (n:=a) o_;have h2:=nQ (n:=a) (b:=20001) o_ o_ o_;have h3:=kZ a;refine⟨?_,by omega⟩;rcases UF 0 (ap a) with h|h
 .exact h
 .have e:ap a=0:=o_;rw[e] at h1;omega
def AK{a n:Int}(hn:1<=n)(ha:1<=a/\a<=100000000):0<=a / n/\a / n<=100000000:=by
 have:=VQ n (show 0<=a by omega);have:=VY (show 0<=a by omega) (show 0<=n by omega);omega
def TM{a n:Int}(hn:1<=n)(ha:1<=a)(h:a % n=0):1<=a / n:=by
 have:=WK (show 0<a by omega) (show 0<=n by omega) (UQ h);omega
def xL{n u v:Int}(hn:1<=n/\n<=31)(hu:1<=u/\u<=100)(hv:1<=v/\v<=u - 1)(hm:bh u v % n=0):
 (1<=ap (bh u v / n)/\ap (bh u v / n)<=20000):=TW ⟨TM hn.1 (rq hu hv).2.2.2.2.1 hm,(AK hn.1 (rq hu hv).2.2.2.2).2⟩
def Ob(n u v:Int)(hn:1<=n/\n<=31)(hu:1<=u/\u<=100)(hv:1<=v/\v<=u - 1)(w:World):
 Kp 243 #[n,u,v] w (mX w (lI n u v) (fc n u v)):=by
 obtain⟨b1,b2,b3,b4,b5⟩:=rq hu hv;obtain⟨b6,b7⟩:=AK hn.1 b5;have HA:Hid (bh u v=u*v*(u*u - v*v)):=rfl;obtain⟨kT,J⟩:=aw w #[(),(),(),(),(),()] 175;have az:Hid (fc n u v=((bh u v % n==0)&&ce (bh u v / n))):=rfl;have HQ:Hid (∀w,_):=λw=>wV (bh u v / n) o_ w;cases h1:(bh u v % n==0)
 .have HE:Hid (fc n u v=false):=by show _=_;rw[az.out,h1];rfl
  have ab:(bh u v % n != 0)=true:=by unfold bne;rw[h1];rfl
  rw[HA.out] at h1 ab b5 b6 b7 HQ;have hne:u*v*(u*u - v*v) % n≠0:=by simpa using h1
  generalize ce (u*v*(u*u - v*v) / n)=bq at HQ
  skip
  exact Gh
 .have hm:bh u v % n=0:=by simpa using h1
  cases h2:ce (bh u v / n)
  .have HE:Hid (fc n u v=false):=by show _=_;rw[az.out,h2,Wy]
   have ab:(bh u v % n != 0)=false:=by unfold bne;rw[h1];rfl
   rw[h2] at HQ
   skip
   rw[HA.out] at h1 ab b5 b6 b7 HQ hm;exact Gh
  .have HE:Hid (fc n u v=true):=by show _=_;rw[az.out,h1,h2];rfl
   have ab:(bh u v % n != 0)=false:=by unfold bne;rw[h1];rfl
   have hk:=xL hn hu hv hm;rw[h2] at HQ;have HR:Hid (∀w,_):=λw=>oT (bh u v / n) o_ w;have f1:=mb (n:=u*u - v*v) (d:=ap (bh u v / n)) o_ o_;have f2:=mb (n:=2*u*v) (d:=ap (bh u v / n)) (by rw[Va];omega) o_;have f3:=mb (n:=u*u+v*v) (d:=ap (bh u v / n)) o_ o_;have g2:1<=2*u*v/\2*u*v<=20000:=by rw[Va];omega
   have bv:=λw=>qD (u*u - v*v) (ap (bh u v / n)) o_ o_ w;rw[ny o_ o_] at bv;simp only[gN,Vo] at bv;have bZ:=λw=>qD (2*u*v) (ap (bh u v / n)) o_ o_ w;rw[ny o_ o_] at bZ;simp only[gN,Vo] at bZ;have g:=λw=>qD (u*u+v*v) (ap (bh u v / n)) o_ o_ w;rw[ny o_ o_] at g;simp only[gN,Vo] at g;have HO:=λw=>PP _ _ _ _ _ _ f1 f2 f3 w;have HV:Hid (lL n u v=_):=rfl;clear f1 f2 f3;obtain⟨p1,p2,p3,p4,Z,p6,hf⟩:=tg (bc (u*u - v*v) (ap (bh u v / n))) (aN (u*u - v*v) (ap (bh u v / n))) (bc (2*u*v) (ap (bh u v / n))) (aN (2*u*v) (ap (bh u v / n))) (bc (u*u+v*v) (ap (bh u v / n))) (aN (u*u+v*v) (ap (bh u v / n)));have HF:Hid (lL n u v=.agg #[p1,p2,p3,p4,Z,p6]):=hf;rw[hf] at HO;clear hf HV;generalize bc (u*u - v*v) (ap (bh u v / n))=N1 at bv HO;generalize aN (u*u - v*v) (ap (bh u v / n))=D1 at bv HO;generalize bc (2*u*v) (ap (bh u v / n))=V at bZ HO;generalize aN (2*u*v) (ap (bh u v / n))=D2 at bZ HO;generalize bc (u*u+v*v) (ap (bh u v / n))=N3 at g HO;generalize aN (u*u+v*v) (ap (bh u v / n))=D3 at g HO;generalize ap (bh u v / n)=k at *;have bo:=h_ bv;have bp:=h_ bZ;have b8:=h_ g;have JO:=h_ HO;clear bv bZ g HO;rw[HA.out] at h1 ab b5 b6 b7 HQ hm HR;have c8:=J.size;go_enter Tryz.func243,Tryz.ntmps243;go_wp2_with (first|(go_at_call 110;refine ay (HQ.out _) ?_)|(go_at_call 106;refine ay (HR.out _) ?_))
   generalize w.alloc _=W at *;refine ai (bo.out _) λw1 I=>?_;have aM:=kT.next I
   have a1:=ag.new w1 #[N1,D1] 96;have bX:=aM.alloc (.cells #[N1,D1] 96);have bx:=af I c8 J;have bz:=bx.size;go_wp2_with fail
   refine ai (bp.out _) λw2 U=>?_;have H:=bX.next U
   have aL:=(a1.next U).alloc (.cells #[V,D2] 96);have bs:=ag.new w2 #[V,D2] 96;have bY:=H.alloc (.cells #[V,D2] 96);have aa:Below w.heap.size w w2:=by exact z_
   have ad:=aa.size;go_wp2_with fail
   refine ai (b8.out _) λw3 aF=>?_;have G:=bY.next aF
   have a8:=aL.next aF
   have bb:=bs.next aF
   have cs:=ag.new w3 #[N3,D3] 96;have a4:Below w.heap.size w w3:=by exact z_
   have b0:=a4.size;obtain⟨co,cb⟩:=a8.q2;have cm:=a8.lt;obtain⟨cc,b9⟩:=bb.q2;have ca:=bb.lt;go_wp2_with fail
   refine ai (JO.out _) λw4 K=>?_;have F:=(G.alloc (.cells #[N3,D3] 96)).next K
   have a3:Below w.heap.size w w4:=by exact z_
   obtain⟨a5,a9,a7,a6,bi,a2⟩:=F.q6;have ac:=F.frozen 0;have ax:=F.frozen 1;have aX:=F.frozen 2;have aG:=F.frozen 3;have ae:=F.frozen 4;have aZ:=F.frozen 5;have ba:=F.lt;go_wp2;have R:=((((((F.set 0 p1).set 1 p2).set 2 p3).set 3 p4).set 4 Z).set 5 p6)
   have hR:Below w.heap.size w ((((((w4.setCell ⟨w.heap.size,0,none⟩ p1).setCell ⟨w.heap.size,1,none⟩ p2).setCell ⟨w.heap.size,2,none⟩ p3).setCell ⟨w.heap.size,3,none⟩ p4).setCell ⟨w.heap.size,4,none⟩ Z).setCell ⟨w.heap.size,5,none⟩ p6):=by exact z_
   simp only[UK,UV,U1] at R;clear F a5 a9 a7 a6 bi a2 ac ax aX aG ae aZ ba;generalize ((((((w4.setCell ⟨w.heap.size,0,none⟩ p1).setCell ⟨w.heap.size,1,none⟩ p2).setCell ⟨w.heap.size,2,none⟩ p3).setCell ⟨w.heap.size,3,none⟩ p4).setCell ⟨w.heap.size,4,none⟩ Z).setCell ⟨w.heap.size,5,none⟩ p6)=W9 at R hR ⊢;obtain⟨R0,R1,R2,R3,R4,R5⟩:=R.q6;have Rl:=R.lt;refine Uh (v:=.tuple #[.agg #[p1,p2,p3,p4,Z,p6],true]) (by simp [results,Tryz.results243,go_sem,R0,R1,R2,R3,R4,R5]) rfl ?_;exact DI HE.out HF.out hR
def LO(n u v:Int)(hn:1<=n/\n<=31)(hu:1<=u/\u<=100)(hv:1<=v/\v<=u - 1)(w:World):
 Kp 273 #[n,u,v] w (mX w (lI n u v) (fc n u v)):=by
 obtain⟨b1,b2,b3,b4,b5⟩:=rq hu hv;obtain⟨b6,b7⟩:=AK hn.1 b5;have HA:Hid (bh u v=u*v*(u*u - v*v)):=rfl;obtain⟨kT,J⟩:=aw w #[(),(),(),(),(),()] 175;have az:Hid (fc n u v=((bh u v % n==0)&&ce (bh u v / n))):=rfl;have HQ:Hid (∀w,_):=λw=>wI (bh u v / n) o_ w;cases h1:(bh u v % n==0)
 .have HE:Hid (fc n u v=false):=by show _=_;rw[az.out,h1];rfl
  have ab:(bh u v % n != 0)=true:=by unfold bne;rw[h1];rfl
  rw[HA.out] at h1 ab b5 b6 b7 HQ;have hne:u*v*(u*u - v*v) % n≠0:=by simpa using h1
  generalize (if ce (u*v*(u*u - v*v) / n) then ap (u*v*(u*u - v*v) / n) else 0)=r0 at HQ;generalize ce (u*v*(u*u - v*v) / n)=bq at HQ;exact FO
 .have hm:bh u v % n=0:=by simpa using h1
  cases h2:ce (bh u v / n)
  .have HE:Hid (fc n u v=false):=by show _=_;rw[az.out,h2,Wy]
   have ab:(bh u v % n != 0)=false:=by unfold bne;rw[h1];rfl
   rw[h2] at HQ;rw[Uj Bool.false_ne_true] at HQ;rw[HA.out] at h1 ab b5 b6 b7 HQ hm;exact FO
  .have HE:Hid (fc n u v=true):=by show _=_;rw[az.out,h1,h2];rfl
   have ab:(bh u v % n != 0)=false:=by unfold bne;rw[h1];rfl
   have hk:=xL hn hu hv hm;rw[h2] at HQ;rw[Um rfl] at HQ;have f1:=mb (n:=u*u - v*v) (d:=ap (bh u v / n)) o_ o_;have f2:=mb (n:=2*u*v) (d:=ap (bh u v / n)) (by rw[Va];omega) o_;have f3:=mb (n:=u*u+v*v) (d:=ap (bh u v / n)) o_ o_;have g2:1<=2*u*v/\2*u*v<=20000:=by rw[Va];omega
   have bv:=λw=>qj (u*u - v*v) (ap (bh u v / n)) o_ o_ o_ w;rw[ny o_ o_] at bv;simp only[gN,Vo] at bv;have bZ:=λw=>qj (2*u*v) (ap (bh u v / n)) o_ o_ o_ w;rw[ny o_ o_] at bZ;simp only[gN,Vo] at bZ;have g:=λw=>qj (u*u+v*v) (ap (bh u v / n)) o_ o_ o_ w;rw[ny o_ o_] at g;simp only[gN,Vo] at g;have HO:=λw=>LQ _ _ _ _ _ _ f1 f2 f3 w;have HV:Hid (lL n u v=_):=rfl;clear f1 f2 f3;obtain⟨p1,p2,p3,p4,Z,p6,hf⟩:=tg (bc (u*u - v*v) (ap (bh u v / n))) (aN (u*u - v*v) (ap (bh u v / n))) (bc (2*u*v) (ap (bh u v / n))) (aN (2*u*v) (ap (bh u v / n))) (bc (u*u+v*v) (ap (bh u v / n))) (aN (u*u+v*v) (ap (bh u v / n)));have HF:Hid (lL n u v=.agg #[p1,p2,p3,p4,Z,p6]):=hf;rw[hf] at HO;clear hf HV;generalize bc (u*u - v*v) (ap (bh u v / n))=N1 at bv HO;generalize aN (u*u - v*v) (ap (bh u v / n))=D1 at bv HO;generalize bc (2*u*v) (ap (bh u v / n))=V at bZ HO;generalize aN (2*u*v) (ap (bh u v / n))=D2 at bZ HO;generalize bc (u*u+v*v) (ap (bh u v / n))=N3 at g HO;generalize aN (u*u+v*v) (ap (bh u v / n))=D3 at g HO;generalize ap (bh u v / n)=k at *;have bo:=h_ bv;have bp:=h_ bZ;have b8:=h_ g;have JO:=h_ HO;clear bv bZ g HO;rw[HA.out] at h1 ab b5 b6 b7 HQ hm;have c8:=J.size;go_enter Tryz.func273,Tryz.ntmps273;go_wp2_with ((go_at_call 148;refine ay (HQ.out _) ?_))
   generalize w.alloc _=W at *;refine ai (bo.out _) λw1 I=>?_;have aM:=kT.next I
   have a1:=ag.new w1 #[N1,D1] 96;have bX:=aM.alloc (.cells #[N1,D1] 96);have bx:=af I c8 J;have bz:=bx.size;go_wp2_with fail
   refine ai (bp.out _) λw2 U=>?_;have H:=bX.next U
   have aL:=(a1.next U).alloc (.cells #[V,D2] 96);have bs:=ag.new w2 #[V,D2] 96;have bY:=H.alloc (.cells #[V,D2] 96);have aa:Below w.heap.size w w2:=by exact z_
   have ad:=aa.size;go_wp2_with fail
   refine ai (b8.out _) λw3 aF=>?_;have G:=bY.next aF
   have a8:=aL.next aF
   have bb:=bs.next aF
   have cs:=ag.new w3 #[N3,D3] 96;have a4:Below w.heap.size w w3:=by exact z_
   have b0:=a4.size;obtain⟨co,cb⟩:=a8.q2;have cm:=a8.lt;obtain⟨cc,b9⟩:=bb.q2;have ca:=bb.lt;go_wp2_with fail
   refine ai (JO.out _) λw4 K=>?_;have F:=(G.alloc (.cells #[N3,D3] 96)).next K
   have a3:Below w.heap.size w w4:=by exact z_
   obtain⟨a5,a9,a7,a6,bi,a2⟩:=F.q6;have ac:=F.frozen 0;have ax:=F.frozen 1;have aX:=F.frozen 2;have aG:=F.frozen 3;have ae:=F.frozen 4;have aZ:=F.frozen 5;have ba:=F.lt;go_wp2;have R:=((((((F.set 0 p1).set 1 p2).set 2 p3).set 3 p4).set 4 Z).set 5 p6)
   have hR:Below w.heap.size w ((((((w4.setCell ⟨w.heap.size,0,none⟩ p1).setCell ⟨w.heap.size,1,none⟩ p2).setCell ⟨w.heap.size,2,none⟩ p3).setCell ⟨w.heap.size,3,none⟩ p4).setCell ⟨w.heap.size,4,none⟩ Z).setCell ⟨w.heap.size,5,none⟩ p6):=by exact z_
   simp only[UK,UV,U1] at R;clear F a5 a9 a7 a6 bi a2 ac ax aX aG ae aZ ba;generalize ((((((w4.setCell ⟨w.heap.size,0,none⟩ p1).setCell ⟨w.heap.size,1,none⟩ p2).setCell ⟨w.heap.size,2,none⟩ p3).setCell ⟨w.heap.size,3,none⟩ p4).setCell ⟨w.heap.size,4,none⟩ Z).setCell ⟨w.heap.size,5,none⟩ p6)=W9 at R hR ⊢;obtain⟨R0,R1,R2,R3,R4,R5⟩:=R.q6;have Rl:=R.lt;refine Uh (v:=.tuple #[.agg #[p1,p2,p3,p4,Z,p6],true]) (by simp [results,Tryz.results273,go_sem,R0,R1,R2,R3,R4,R5]) rfl ?_;exact DI HE.out HF.out hR
def JX(h:P:=by
 cases bx
 all_goals
  go_enter Tryz.func49,Tryz.ntmps49;go_wp2_with fail
  (go_at_call 62;refine ai (HC.out _) λw1 I=>?_;obtain⟨aZ,a6⟩:=bf I;have ax:=I.size;(try simp only[Uq] at ax);(try (have F:w.heap.size<w1.heap.size:=by omega));(try (have a9:=Ul ax));(try (have bs:=Ul (Uo a9))))
  replace kP:=kP.next I
  obtain⟨bY,bZ,bX⟩:=kP.q3;have b0:=kP.lt;go_wp2_with (first|((with_reducible (go_at_call 63;refine ay (H1.out _) ?_)))|((with_reducible (go_at_call 63;refine ay (H2.out _) ?_))))
  go_ret;exact⟨by rw[HR.out];rfl,by exact z_⟩):=h
def rr(h:P:=by
 go_wp2;go_ret;exact⟨by rw[HR.out];rfl,by exact z_⟩):=h
def xk(A B X Y E:Int)(hC:be A B=true)(w:World):
 Kp 49 #[.agg #[A,B],.agg #[X,Y,E]] w λr w'=>r=.returned (.bool (dN A B X Y E))/\Below w.heap.size w w':=by
 obtain⟨hA,cy⟩:(-1000<=A/\A<=1000)/\(-10000<=B/\B<=10000):=by
  exact Fz
 have HC:Hid (∀w,_):=λw=>jG A B w;rw[hC] at HC;obtain⟨kC,kP,hB⟩:=cr w #[A,B] 42 #[X,Y,E] 46;have G:Hid (dN A B X Y E=((X==0&&Y==0&&E==0)||jS A B X Y E)):=rfl;have g:Hid (jS A B X Y E=(av X (-10000) 10000&&av E 1 20&&(ar X E==1)&&av Y (-3000000) 3000000&&(Y*Y==cvV A B X E))):=rfl;clear hC;by_cases ae:E=0
 .subst ae;have J:Hid (jS A B X Y 0=false):=by show _=_;rw[g.out,show av 0 1 20=false by decide,Wy];rfl
  have H2:Hid (∀w,_):=λw=>cR 0 1 20 w;rw[show av 0 1 20=false by decide] at H2;have H1:Hid (∀w,_):=λw=>cR X (-10000) 10000 w;generalize av X (-10000) 10000=bx at H1;clear g;by_cases H:X=0
  .subst H;by_cases az:Y=0
   .subst az;have HR:Hid (dN A B 0 0 0=true):=by show _=_;rw[G.out];rfl
    go_enter Tryz.func49,Tryz.ntmps49;go_wp2_with fail
    (go_at_call 62;refine ai (HC.out _) λw1 I=>?_;obtain⟨aZ,a6⟩:=bf I;have ax:=I.size;(try simp only[Uq] at ax);(try (have F:w.heap.size<w1.heap.size:=by omega));(try (have a9:=Ul ax));(try (have bs:=Ul (Uo a9))))
    replace kP:=kP.next I
    obtain⟨bY,bZ,bX⟩:=kP.q3;have b0:=kP.lt;exact rr
   .have cA:(Y==0)=false:=by simpa using az
    have HR:Hid (dN A B 0 Y 0=false):=by show _=_;rw[G.out,J.out,cA];rfl
    clear az;exact JX
  .have c4:(X==0)=false:=by simpa using H
   have HR:Hid (dN A B X Y 0=false):=by show _=_;rw[G.out,J.out,c4];rfl
   clear H;exact JX
 .have ba:(E==0)=false:=by simpa using ae
  have HP:Hid (dN A B X Y E=jS A B X Y E):=by show _=_;rw[G.out,ba];simp
  clear G ae;have H1:=h_ (cR X (-10000) 10000);have H2:=h_ (cR E 1 20);have H4:=h_ (cR Y (-3000000) 3000000);cases h1:av X (-10000) 10000
  .have HR:Hid (dN A B X Y E=false):=by show _=_;rw[HP.out,g.out,h1];rfl
   rw[h1] at H1;clear h1;go_enter Tryz.func49,Tryz.ntmps49;go_wp2_with fail
   (go_at_call 62;refine ai (HC.out _) λw1 I=>?_;obtain⟨aZ,a6⟩:=bf I;have ax:=I.size;(try simp only[Uq] at ax);(try (have F:w.heap.size<w1.heap.size:=by omega));(try (have a9:=Ul ax));(try (have bs:=Ul (Uo a9))))
   replace kP:=kP.next I
   obtain⟨bY,bZ,bX⟩:=kP.q3;have b0:=kP.lt;go_wp2_with fail
   refine ay (H1.out _) ?_;exact rr
  .have hx:=bH h1;rw[h1] at H1;cases h2:av E 1 20
   .have HR:Hid (dN A B X Y E=false):=by show _=_;rw[HP.out,g.out,h1,h2];rfl
    rw[h2] at H2;clear h1 h2;go_enter Tryz.func49,Tryz.ntmps49;go_wp2_with fail
    (go_at_call 62;refine ai (HC.out _) λw1 I=>?_;obtain⟨aZ,a6⟩:=bf I;have ax:=I.size;(try simp only[Uq] at ax);(try (have F:w.heap.size<w1.heap.size:=by omega));(try (have a9:=Ul ax));(try (have bs:=Ul (Uo a9))))
    replace kP:=kP.next I
    obtain⟨bY,bZ,bX⟩:=kP.q3;have b0:=kP.lt;go_wp2_with fail
    refine ay (H1.out _) ?_;go_wp2_with fail
    refine ay (H2.out _) ?_;exact rr
   .have he:=bH h2;rw[h2] at H2;have HG:=h_ (nX X E o_ o_);cases h3:(ar X E==1)
    .have HR:Hid (dN A B X Y E=false):=by show _=_;rw[HP.out,g.out,h1,h2,h3];rfl
     have Z:(ar X E != 1)=true:=by unfold bne;rw[h3];rfl
     clear h1 h2;go_enter Tryz.func49,Tryz.ntmps49;go_wp2_with fail
     (go_at_call 62;refine ai (HC.out _) λw1 I=>?_;obtain⟨aZ,a6⟩:=bf I;have ax:=I.size;(try simp only[Uq] at ax);(try (have F:w.heap.size<w1.heap.size:=by omega));(try (have a9:=Ul ax));(try (have bs:=Ul (Uo a9))))
     replace kP:=kP.next I
     obtain⟨bY,bZ,bX⟩:=kP.q3;have b0:=kP.lt;go_wp2_with fail
     refine ay (H1.out _) ?_;go_wp2_with fail
     refine ay (H2.out _) ?_;go_wp2_with fail
     refine (HG.out _).mono ?_;rintro e w' ⟨rfl,V,rfl⟩;exact rr
    .have Z:(ar X E != 1)=false:=by unfold bne;rw[h3];rfl
     cases h4:av Y (-3000000) 3000000
     .have HR:Hid (dN A B X Y E=false):=by show _=_;rw[HP.out,g.out,h1,h2,h3,h4];rfl
      rw[h4] at H4;clear h1 h2 h4;go_enter Tryz.func49,Tryz.ntmps49;go_wp2_with fail
      (go_at_call 62;refine ai (HC.out _) λw1 I=>?_;obtain⟨aZ,a6⟩:=bf I;have ax:=I.size;(try simp only[Uq] at ax);(try (have F:w.heap.size<w1.heap.size:=by omega));(try (have a9:=Ul ax));(try (have bs:=Ul (Uo a9))))
      replace kP:=kP.next I
      obtain⟨bY,bZ,bX⟩:=kP.q3;have b0:=kP.lt;go_wp2_with fail
      refine ay (H1.out _) ?_;go_wp2_with fail
      refine ay (H2.out _) ?_;go_wp2_with fail
      refine (HG.out _).mono ?_;rintro e w' ⟨rfl,V,rfl⟩;go_wp2_with fail
      refine ay (H4.out _) ?_;exact rr
     .have hy:=bH h4;have HR:Hid (dN A B X Y E=(Y*Y==cvV A B X E)):=by show _=_;rw[HP.out,g.out,h1,h2,h3,h4];rfl
      rw[h4] at H4;have bz:0<=Y*Y/\Y*Y<=9000000000000:=⟨by
       rcases Xz 0 Y with h|h
       .exact UJ h h
       .have:=UJ (show 0<=-Y by omega) (show 0<=-Y by omega);rw[U6] at this;exact this,by have:=gK (a:=3000000) (b:=3000000) hy hy;omega⟩
      have a5:IntKind.i64.wrap (Y*Y)=Y*Y:=Vd _ o_;have K:=h_ (sK A B X E hA cy hx he);clear h1 h2 h4;go_enter Tryz.func49,Tryz.ntmps49;go_wp2_with fail
      (go_at_call 62;refine ai (HC.out _) λw1 I=>?_;obtain⟨aZ,a6⟩:=bf I;have ax:=I.size;(try simp only[Uq] at ax);(try (have F:w.heap.size<w1.heap.size:=by omega));(try (have a9:=Ul ax));(try (have bs:=Ul (Uo a9))))
      replace kP:=kP.next I
      replace kC:=kC.next I
      have U:Below w.heap.size w w1:=by exact z_
      obtain⟨bY,bZ,bX⟩:=kP.q3;have b0:=kP.lt;go_wp2_with fail
      refine ay (H1.out _) ?_;go_wp2_with fail
      refine ay (H2.out _) ?_;go_wp2_with fail
      refine (HG.out _).mono ?_;rintro e w' ⟨rfl,V,rfl⟩;go_wp2_with fail
      refine ay (H4.out _) ?_;go_wp2;have bX:=kP.drewN V;have ab:=kC.drewN V;have aa:=lN U V;clear kP kC U I aZ a6 hB;generalize w1.drewN V=W at *;obtain⟨a4,a2,aX⟩:=bX.q3;have aL:=bX.lt;obtain⟨a1,aM⟩:=ab.q2;have a3:=ab.lt;have ad:=aa.size
      (refine bP k_ k_ ?_;(repeat (go_big_quiet_step ((go_at_call 65;exact Calls.quiet_cls an _ (K.out _)))));refine wpQuiet_nil ?_;intro w5 ac;obtain⟨a8,a7⟩:=bf ac;have dp:=ac.size;(try simp only[Uq] at dp))
      go_wp2;go_ret;exact⟨by rw[HR.out];rfl,af ac ad aa⟩
def F3(h:P:=by
 go_enter Tryz.func107,Tryz.ntmps107;go_wp2;generalize (w.alloc _).alloc _=W at *;obtain⟨bY,bZ,bX⟩:=kP.q3;have b0:=kP.lt
 (refine bP k_ k_ ?_;(repeat (go_big_quiet_step ((first|(with_reducible (go_at_call 104;exact Calls.quiet_clsS _ (H1.out _)))|(with_reducible (go_at_call 104;exact Calls.quiet_clsS _ (H2.out _)))|(with_reducible (go_at_call 104;exact Calls.quiet_clsS _ (H4.out _)))|(go_at_call 113;exact Calls.quiet_clsS _ (aG.out _))|(go_at_call 169;exact Calls.quiet_clsS _ (HG.out _))))));refine wpQuiet_nil ?_;intro w3 aF;obtain⟨V,H⟩:=bf aF;have b9:=aF.size;(try simp only[Uq] at b9))
 have aZ:=af aF hB.size hB;go_wp2;go_ret;exact⟨by rw[HR.out];rfl,aZ⟩):=h
def K_(h:P:=by
 clear h1 h2 h4 HP g F;exact F3):=h
def J7(h:P:=by
 exact F3):=h
def EJ(A B X Y E:Int)(hA:bj A)(cy:a_ B)(w:World):
 Kp 107 #[.agg #[A,B],.agg #[X,Y,E]] w λr w'=>r=.returned (.bool (dN A B X Y E))/\Below w.heap.size w w':=by
 obtain⟨kC,kP,hB⟩:=cr w #[A,B] 42 #[X,Y,E] 46;have G:Hid (dN A B X Y E=((X==0&&Y==0&&E==0)||jS A B X Y E)):=rfl;have g:Hid (jS A B X Y E=(av X (-10000) 10000&&av E 1 20&&(ar X E==1)&&av Y (-3000000) 3000000&&(Y*Y==cvV A B X E))):=rfl;by_cases ae:E=0
 .subst ae;have J:Hid (jS A B X Y 0=false):=by show _=_;rw[g.out,show av 0 1 20=false by decide,Wy];rfl
  have HR:Hid (dN A B X Y 0=(X==0&&Y==0)):=by show _=_;rw[G.out,J.out];simp
  clear G g J;cases hx:(X==0)<;>cases hy:(Y==0)
  all_goals
   rw[hx,hy] at HR;go_enter Tryz.func107,Tryz.ntmps107;go_wp2;go_ret;refine⟨by rw[HR.out];rfl,?_⟩;exact z_
 .have ba:(E==0)=false:=by simpa using ae
  have HP:Hid (dN A B X Y E=jS A B X Y E):=by show _=_;rw[G.out,ba];simp
  clear G ae;have H1:=h_ (cw X (-10000) 10000);have H2:=h_ (cw E 1 20);have H4:=h_ (cw Y (-10000000) 10000000);have aG:Hid True:=trivial;have HG:Hid True:=trivial;cases h1:av X (-10000) 10000
  .have HR:Hid (dN A B X Y E=false):=by show _=_;rw[HP.out,g.out,h1];rfl
   rw[h1] at H1;clear h1 HP g;exact J7
  .have hx:=bH h1;rw[h1] at H1;cases h2:av E 1 20
   .have HR:Hid (dN A B X Y E=false):=by show _=_;rw[HP.out,g.out,h1,h2];rfl
    rw[h2] at H2;clear h1 h2 HP g;exact J7
   .have he:=bH h2;rw[h2] at H2;have F:=h_ (R9 (Y:=Y) hA cy hx he);cases h4:av Y (-10000000) 10000000
    .have HR:Hid (dN A B X Y E=false):=by
      show _=_;have:=F.out;rw[h4,Xf] at this;rw[HP.out,g.out,h1,h2,Bool.and_assoc,<-this,Wy]
     rw[h4] at H4;exact K_
    .have hy:=bH h4;rw[h4] at H4;clear aG HG;have aG:=h_ (lk X o_);have hg:=λw=>nt X.natAbs E o_ o_ w;rw[CD] at hg;have HG:=h_ hg;clear hg;cases h3:(ar X E==1)
     .have HR:Hid (dN A B X Y E=false):=by show _=_;rw[HP.out,g.out,h1,h2,h3];rfl
      have Z:(ar X E != 1)=true:=by unfold bne;rw[h3];rfl
      exact K_
     .have Z:(ar X E != 1)=false:=by unfold bne;rw[h3];rfl
      have HR:Hid (dN A B X Y E=(Y*Y==cvV A B X E)):=by
       show _=_;have:=F.out;rw[h4,Wl] at this;rw[HP.out,g.out,h1,h2,h3,Bool.and_assoc,<-this];rfl
      have bz:0<=Y*Y/\Y*Y<=100000000000000:=⟨by
       rcases Xz 0 Y with h|h
       .exact UJ h h
       .have:=UJ (show 0<=-Y by omega) (show 0<=-Y by omega);rw[U6] at this;exact this,by have:=gK (a:=10000000) (b:=10000000) hy hy;omega⟩
      have a5:IntKind.i64.wrap (Y*Y)=Y*Y:=Vd _ o_;have K:=h_ (xb A B X E hA cy hx he);clear h1 h2 h4 HP g F;go_enter Tryz.func107,Tryz.ntmps107;go_wp2;generalize (w.alloc _).alloc _=W at *;obtain⟨bY,bZ,bX⟩:=kP.q3;have b0:=kP.lt
      (refine bP k_ k_ ?_;(repeat (go_big_quiet_step ((first|(with_reducible (go_at_call 104;exact Calls.quiet_clsS _ (H1.out _)))|(with_reducible (go_at_call 104;exact Calls.quiet_clsS _ (H2.out _)))|(with_reducible (go_at_call 104;exact Calls.quiet_clsS _ (H4.out _)))|(go_at_call 113;exact Calls.quiet_clsS _ (aG.out _))|(go_at_call 169;exact Calls.quiet_clsS _ (HG.out _))))));refine wpQuiet_nil ?_;intro w3 aF;obtain⟨V,H⟩:=bf aF;have b9:=aF.size;(try simp only[Uq] at b9))
      have aZ:=af aF hB.size hB;have bX:=kP.next aF
      have ab:=kC.next aF
      clear aF V H kP kC hB;go_wp2;obtain⟨a4,a2,aX⟩:=bX.q3;have aL:=bX.lt;obtain⟨a1,aM⟩:=ab.q2;have a3:=ab.lt;have aa:=aZ.size
      (refine bP k_ k_ ?_;(repeat (go_big_quiet_step ((go_at_call 170;exact Calls.quiet_cls an _ (K.out _)))));refine wpQuiet_nil ?_;intro w5 ac;obtain⟨a8,a7⟩:=bf ac;have dp:=ac.size;(try simp only[Uq] at dp))
      go_wp2;go_ret;exact⟨by rw[HR.out];rfl,af ac aa aZ⟩
def Rh{n}(h:jl n=true):1<=n/\n<=31:=by
 unfold jl at h;simp at h;exact bH h.1
def C9(n u v):∃p q r s t g:Int,lI n u v=.agg #[p,q,r,s,t,g]:=by
 unfold lI;split
 .exact tg _ _ _ _ _ _
 .exact⟨0,0,0,0,0,0,rfl⟩
end Go.Proofs.YtaamhakdhaolmaaGreatDoor
