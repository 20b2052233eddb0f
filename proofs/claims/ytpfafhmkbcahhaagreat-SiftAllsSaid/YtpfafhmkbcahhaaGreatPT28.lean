import Derived.Test.YtpfafhmkbcahhaaGreatPT27
import Derived.Test.YtpfafhmkbcahhaaGreatPT25
namespace Go.Proofs.YtpfafhmkbcahhaaGreat
def M17:MV:={ laysT 4 (MV.new 4 200) [60576] with trail:=[] }
theorem m17_live:M17.live=6:=by decide +kernel
theorem m17_oneD:(M17.oneD (M17.lvl 1) 1000).M.live=4/\(M17.oneD (M17.lvl 1) 1000).sw=5/\(M17.oneD (M17.lvl 1) 1000).M.trail.length=1:=by decide +kernel
end Go.Proofs.YtpfafhmkbcahhaaGreat
